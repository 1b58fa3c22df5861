/- Am22 Am22b Am23 -/
import Derived.Test.YtbknppciefodiaaGreatK4
namespace Go.Am
open Go
variable {P : Program} {T : Tab}
section
variable {st st1 st2 : AS} {v : V}
theorem Ya {α : Type} {x : Option α} {f : α→V} : (x.map fun a=>(f a,st)) = some (v,st1)→st1 = st∧(x.map fun a=>(f a,st2)) = some (v,st2):=by
  cases x <;> simp
  rintro rfl rfl;simp
theorem qcy {ev ev' : Operand→Option V} : ∀ {l : List (Nat × Operand)},(∀ x∈l.map (·.2),ev' x = ev x)→Zm ev' l = Zm ev l
  | [],_=>rfl
  | (i,o)::r,h=>by
    have h1:=h o qd
    have h2:=qcy (l:=r) (fun x hx=>h x (by simp at hx ⊢;exact .inr hx))
    simp only [Zm,h1,h2]
theorem q79 {ev ev' : Operand→Option V} : ∀ {l : List Operand},(∀ x∈l,ev' x = ev x)→evL ev' l = evL ev l
  | [],_=>rfl
  | o::r,h=>by
    have h1:=h o qd
    have h2:=q79 (l:=r) (fun x hx=>h x (by simp [hx]))
    simp only [evL,h1,h2]
theorem qp9 {i : TI} (hh : st2.hp = st.hp) : J8 st2 i v = J8 st i v:=by
  cases v <;> simp only [J8,AS.blk,hh]
theorem qm8 {b : Builtin} {ts : Array TypeId} {vs : List V} (h : Kt T st b ts vs = some (v,st1)) (hb : b = .len∨b = .min∨b = .max) : st1 = st∧Kt T st2 b ts vs = some (v,st2):=by
  rcases hb with rfl | rfl | rfl
  · rcases vs with _ | ⟨x,_ | ⟨y,r⟩⟩
    · simp [Kt] at h
    · simp only [Kt] at h ⊢
      revert h;split
      · split
        · split
          · simp;rintro rfl rfl;simp
          · split <;> simp
            all_goals rintro rfl rfl;simp
          · split <;> simp
            all_goals rintro rfl rfl;simp
          · simp
        · simp
      · simp
    · simp [Kt] at h
  · rcases vs with _ | ⟨x,r⟩
    · simp [Kt] at h
    · simp only [Kt] at h ⊢
      revert h;exact Ya
  · rcases vs with _ | ⟨x,r⟩
    · simp [Kt] at h
    · simp only [Kt] at h ⊢
      revert h;exact Ya
theorem qe6 {op : Op} (h : opFn T st op = some (v,st1)) (ht : touch op≤1) (hh : touch op≠0→st2.hp = st.hp) (hev : ∀ x∈op.operands,st2.ev x = st.ev x) : st1 = st∧opFn T st2 op = some (v,st2):=by
  cases op <;> simp only [opFn,reduceCtorEq] at h <;> simp only [touch,Nat.reduceLeDiff] at ht
  case move x=>
    simp only [opFn,hev x (by simp [Op.operands])] at h ⊢
    revert h;exact Ya
  case assign x=>
    simp only [opFn,hev x (by simp [Op.operands])] at h ⊢
    revert h;exact Ya
  case pick c x y=>
    simp only [opFn,hev c (by simp [Op.operands]),hev x (by simp [Op.operands]),hev y (by simp [Op.operands])] at h ⊢
    revert h;split
    · exact Ya
    · exact Ya
    · simp
  case load t p=>
    simp only [opFn,hev p (by simp [Op.operands])] at h ⊢
    revert h;split
    · rw [qp9 (hh (by simp [touch]))]
      exact Ya
    · simp
  case lookup t x k ok=>
    have hb : ∀ n,st2.blk n = st.blk n:=fun n=>by simp only [AS.blk,hh (by simp [touch])]
    simp only [opFn,hev x (by simp [Op.operands]),hev k (by simp [Op.operands]),hb] at h ⊢
    revert h;split
    · split
      · split
        · simp only [Option.map_eq_some_iff]
          rintro ⟨e,h1,h2⟩
          cases h2
          exact ⟨rfl,e,h1,rfl⟩
        · simp
      · simp
    · simp
  case build t ps=>
    have:=qcy (ev:=st.ev) (ev':=st2.ev) (l:=ps.toList) (fun x hx=>hev x (by simpa [Op.operands] using hx))
    simp only [opFn,this] at h ⊢
    revert h;split
    · split
      · split
        · exact Ya
        · simp
      · simp
    · simp
  case binOp op t x y u=>
    simp only [opFn,hev x (by simp [Op.operands]),hev y (by simp [Op.operands])] at h ⊢
    revert h;split
    · split
      · split
        · split <;> simp
          · rintro rfl rfl;simp
          · rintro rfl rfl;simp
        · simp
      · simp
    · exact Ya
    · split
      · exact Ya
      · simp
    · simp
  case unOp op t x=>
    simp only [opFn,hev x (by simp [Op.operands])] at h ⊢
    revert h;split
    · exact Ya
    · simp
  case convert s d x=>
    simp only [opFn,hev x (by simp [Op.operands])] at h ⊢
    revert h;split
    · split <;> simp
      rintro rfl rfl;simp
    · simp
  case makeFunc fn first caps=>
    cases fn <;> simp only [reduceCtorEq,opFn] at h ⊢
    have:=q79 (ev:=st.ev) (ev':=st2.ev) (l:=caps.toList) (fun x hx=>hev x (by simp [Op.operands] at hx ⊢;exact .inr hx))
    rw [this]
    revert h;split
    · exact Ya
    · simp
  case slice t x lo hi mx=>
    have hb : ∀ (d : Nat) (o : Option Operand),(o = lo∨o = hi)→bound st2 d o = bound st d o:=by
      rintro d o ho
      cases o with
      | none=>rfl
      | some o=>
        simp only [bound]
        rw [hev o (by rcases ho with rfl | rfl <;> simp [Op.operands])]
    simp only [opFn,hev x (by simp [Op.operands])] at h ⊢
    revert h;split
    · split
      · split
        · rename_i n _
          rw [hb 0 lo (.inl rfl),hb n hi (.inr rfl)]
          split
          · exact Ya
          · simp
        · simp
      · simp
    · simp
  case fieldAddr s p f=>
    simp only [opFn,hev p (by simp [Op.operands])] at h ⊢
    revert h;split
    · split
      · exact Ya
      · simp
    · simp
  case field s x f=>
    simp only [opFn,hev x (by simp [Op.operands])] at h ⊢
    revert h;split
    · split
      · split
        · exact Ya
        · simp
      · simp
    · simp
  case indexAddr t x ix=>
    simp only [opFn,hev x (by simp [Op.operands]),hev ix (by simp [Op.operands])] at h ⊢
    revert h;split
    · exact Ya
    · simp
  case index t x ix=>
    simp only [opFn,hev x (by simp [Op.operands]),hev ix (by simp [Op.operands])] at h ⊢
    revert h;split
    · split
      · split
        · split
          · exact Ya
          · simp
        · simp
      · split
        · exact Ya
        · simp
      · simp
    · simp
  case extract x k=>
    simp only [opFn,hev x (by simp [Op.operands])] at h ⊢
    revert h;split
    · exact Ya
    · exact Ya
    · simp
  case nilCheck x=>
    simp only [opFn,hev x (by simp [Op.operands])] at h ⊢
    revert h;split <;> simp
    all_goals rintro rfl rfl;simp
  case call c=>
    obtain ⟨cal,args,argTypes⟩:=c
    cases cal <;> simp only [reduceCtorEq] at h
    rename_i b
    have:=q79 (ev:=st.ev) (ev':=st2.ev) (l:=args.toList) (fun x hx=>hev x (by simpa [Op.operands,Call.operands] using hx))
    simp only [opFn,this] at h ⊢
    revert h;split
    · have hb : b = .len∨b = .min∨b = .max:=by
        revert ht;cases b <;> simp
      intro h
      exact qm8 h hb
    · simp
end
end Go.Am
namespace Go.Am
open Go
variable {P : Program} {T : Tab}
def qbz (x : Fp) (st st2 : AS) : Prop:=(∀ m∈x.2,find st2.hp m = find st.hp m)∧match x.1 with
  | none=>∀ m,find st2.hp m = find st.hp m
  | some r=>∀ m∈r,find st2.hp m = find st.hp m
inductive Out (T : Tab) (st : AS) (op : Op) (v : V) (st1 : AS) : Prop
  | calm : st1.sl = st.sl→st1.nx = st.nx→(∀ m,m ∉ (fp st op).2→find st1.hp m = find st.hp m)→(∀ m,find st.hp m = none→find st1.hp m = none)→
      (∀ st2,(∀ x∈op.operands,st2.ev x = st.ev x)→qbz (fp st op) st st2→∃ hp3,opFn T st2 op = some (v,⟨st2.sl,hp3,st2.nx⟩)∧(∀ m∈(fp st op).2,find hp3 m = find st1.hp m)∧(∀ m,m ∉ (fp st op).2→find hp3 m = find st2.hp m))→Out T st op v st1
  | new (mk : Nat→V) (b : Blk) (hp1 : List (Nat × Blk)) : ((∃ es,mk = fun n=>.ref n es 0 0)∨(∃ es l,mk = fun n=>.hs n es 0 l)∨(mk = fun n=>.mp n))→v = mk st.nx→st1 = ⟨st.sl,(st.nx,b)::hp1,st.nx + 1⟩→st.nx∈(fp st op).2→
      (∀ m,m ∉ (fp st op).2→find hp1 m = find st.hp m)→(∀ m,find st.hp m = none→find hp1 m = none)→
      (∀ st2,(∀ x∈op.operands,st2.ev x = st.ev x)→qbz (fp st op) st st2→∃ hp3,opFn T st2 op = some (mk st2.nx,⟨st2.sl,(st2.nx,b)::hp3,st2.nx + 1⟩)∧(∀ m∈(fp st op).2,find hp3 m = find hp1 m)∧(∀ m,m ∉ (fp st op).2→find hp3 m = find st2.hp m)∧(∀ m c,find hp3 m = some c→c = .dead∨find st2.hp m = some c))→Out T st op v st1
section
variable {st st1 st2 : AS} {v : V}
theorem qpa {i : TI} {p : V} (hh : ∀ m∈Qz p,find st2.hp m = find st.hp m) : J8 st2 i p = J8 st i p:=by
  cases p with
  | ref n es a j=>
    have : st2.blk n = st.blk n:=hh n (by simp [Qz])
    simp only [J8,this]
  | d x=>cases x <;> rfl
  | _=>rfl
theorem qgc {x : V} (hh : ∀ m∈Qz x,find st2.hp m = find st.hp m) : Yp st2 x = Yp st x:=by
  cases x with
  | hs n es o l=>
    have : st2.blk n = st.blk n:=hh n (by simp [Qz])
    simp only [Yp,this]
  | d x=>cases x <;> rfl
  | _=>rfl
theorem qcu {x : V} (hh : ∀ m∈Qz x,find st2.hp m = find st.hp m) : Yf st2 x = Yf st x:=by
  cases x with
  | hs n es o l=>
    have : st2.blk n = st.blk n:=hh n (by simp [Qz])
    simp only [Yf,this]
  | d x=>cases x <;> rfl
  | _=>rfl
theorem J7 {α : Type} {l : List (Nat × α)} {k t : Nat} {x : α} (h : k≠t) : find (repl l k x) t = find l t:=by rw [Yl,if_neg h]
theorem q47 {α : Type} {l : List (Nat × α)} {k t : Nat} {x : α} (h : find l t = none) : find (repl l k x) t = none:=by
  rw [Yl];split
  · rename_i e;subst e;rw [h];rfl
  · exact h
theorem q46 {l l2 : List (Nat × Blk)} {k t : Nat} {x : Blk} (h : find l2 t = find l t) : find (repl l2 k x) t = find (repl l k x) t:=by
  rw [Yl,Yl];split
  · rename_i e;subst e;rw [h]
  · exact h
theorem qsv {l : List (Nat × Blk)} {k m : Nat} {c : Blk} (h : find (repl l k .dead) m = some c) : c = .dead∨find l m = some c:=by
  rw [Yl] at h;split at h
  · cases hf : find l k with
    | none=>rw [hf] at h;cases h
    | some b=>rw [hf] at h;cases h;exact .inl rfl
  · exact .inr h
theorem qyd {i : TI} {p y : V} (h : Zw st i p y = some st1) : ∃ n b,Qz p = [n]∧st1 = ⟨st.sl,repl st.hp n b,st.nx⟩∧∀ st2 : AS,find st2.hp n = find st.hp n→Zw st2 i p y = some ⟨st2.sl,repl st2.hp n b,st2.nx⟩:=by
  cases p with
  | ref n k a j=>
    simp only [Zw] at h
    split at h
    · cases h
    · rename_i hc
      have key : ∀ b : Blk,∀ st2 : AS,st2.setBlk n b = ⟨st2.sl,repl st2.hp n b,st2.nx⟩:=fun _ _=>rfl
      split at h
      · rename_i es xs hb
        split at h
        · rename_i cs e1 e2
          split at h
          · rename_i hle
            split at h
            · rename_i ds hd
              cases h
              refine ⟨n,_,rfl,key _ _,fun st2 e=>?_⟩
              have e' : st2.blk n = st.blk n:=e
              simp only [Zw,if_neg hc,e',hb,e1,e2,if_pos hle,hd]
              rfl
            · rename_i hd
              cases h
              refine ⟨n,_,rfl,key _ _,fun st2 e=>?_⟩
              have e' : st2.blk n = st.blk n:=e
              simp only [Zw,if_neg hc,e',hb,e1,e2,if_pos hle,hd]
              rfl
          · cases h
        · cases h
      · rename_i es xs hb
        split at h
        · rename_i cs e1 e2
          split at h
          · rename_i hle
            cases h
            refine ⟨n,_,rfl,key _ _,fun st2 e=>?_⟩
            have e' : st2.blk n = st.blk n:=e
            simp only [Zw,if_neg hc,e',hb,e1,e2,if_pos hle]
            rfl
          · cases h
        · cases h
      · cases h
  | _=>simp [Zw] at h
theorem qne {p y : V} (h : copyV st p y = some (v,st1)) : ∃ n b,Qz p = [n]∧st1 = ⟨st.sl,repl st.hp n b,st.nx⟩∧∀ st2 : AS,find st2.hp n = find st.hp n→(∀ m∈Qz y,find st2.hp m = find st.hp m)→copyV st2 p y = some (v,⟨st2.sl,repl st2.hp n b,st2.nx⟩):=by
  cases p with
  | hs n es o l=>
    simp only [copyV] at h
    split at h
    · rename_i k xs ys hb hy
      split at h
      · rename_i hc
        cases h
        refine ⟨n,_,rfl,rfl,fun st2 e e2=>?_⟩
        have e' : st2.blk n = st.blk n:=e
        simp only [copyV,e',hb,qcu e2,hy,if_pos hc]
        rfl
      · cases h
    · cases h
  | _=>simp [copyV] at h
theorem qn4 {i : TI} {p : V} (h : J5 st i p = some (v,st1)) : (st1 = st∧∀ st2 : AS,J5 st2 i p = some (v,st2))∨
    ∃ n b,Qz p = [n]∧st1 = ⟨st.sl,repl st.hp n b,st.nx⟩∧∀ st2 : AS,find st2.hp n = find st.hp n→J5 st2 i p = some (v,⟨st2.sl,repl st2.hp n b,st2.nx⟩):=by
  cases p with
  | d x=>
    cases x <;> simp only [J5,reduceCtorEq,Option.some.injEq,Prod.mk.injEq] at h
    obtain ⟨rfl,rfl⟩:=h
    exact .inl ⟨rfl,fun st2=>rfl⟩
  | hs n es o l=>
    right
    simp only [J5] at h
    split at h
    · rename_i k xs hb
      split at h
      · rename_i hc
        cases h
        refine ⟨n,_,rfl,rfl,fun st2 e=>?_⟩
        have e' : st2.blk n = st.blk n:=e
        simp only [J5,e',hb,if_pos hc]
        rfl
      · cases h
    · cases h
  | _=>simp [J5] at h
theorem qlt {i : TI} {p y : V} (h : Yk st i p y = some (v,st1)) :
    (st1 = st∧∀ st2 : AS,(∀ m∈Qz p ++ Qz y,find st2.hp m = find st.hp m)→Yk st2 i p y = some (v,st2))∨
    (∃ es l b hp1,v = .hs st.nx es 0 l∧st1 = ⟨st.sl,(st.nx,b)::hp1,st.nx + 1⟩∧((hp1 = st.hp∧∀ st2 : AS,(∀ m∈Qz p ++ Qz y,find st2.hp m = find st.hp m)→Yk st2 i p y = some (.hs st2.nx es 0 l,⟨st2.sl,(st2.nx,b)::st2.hp,st2.nx + 1⟩))∨
      (∃ n,n∈Qz p∧hp1 = repl st.hp n .dead∧∀ st2 : AS,(∀ m∈Qz p ++ Qz y,find st2.hp m = find st.hp m)→Yk st2 i p y = some (.hs st2.nx es 0 l,⟨st2.sl,(st2.nx,b)::repl st2.hp n .dead,st2.nx + 1⟩)))):=by
  cases p with
  | d x=>
    cases x <;> simp only [Yk,reduceCtorEq] at h
    have hy : ∀ st2 : AS,(∀ m∈Qz (.d .nilsl) ++ Qz y,find st2.hp m = find st.hp m)→Yf st2 y = Yf st y∧Yp st2 y = Yp st y:=fun st2 e=>
      ⟨qcu fun m hm=>e m (by simp [hm]),qgc fun m hm=>e m (by simp [hm])⟩
    split at h
    · rename_i ys hd
      split at h
      · rename_i hle
        split at h
        · rename_i h0
          cases h
          refine .inl ⟨rfl,fun st2 e=>?_⟩
          simp only [Yk,(hy st2 e).1,hd,if_pos hle,if_pos h0]
        · rename_i h0
          cases h
          refine .inr ⟨_,_,_,_,rfl,rfl,.inl ⟨rfl,fun st2 e=>?_⟩⟩
          simp only [Yk,(hy st2 e).1,hd,if_pos hle,if_neg h0]
          rfl
      · cases h
    · rename_i hd
      split at h
      · rename_i ys hc
        split at h
        · rename_i hle
          split at h
          · rename_i h0
            cases h
            refine .inl ⟨rfl,fun st2 e=>?_⟩
            simp only [Yk,(hy st2 e).1,(hy st2 e).2,hd,hc,if_pos hle,if_pos h0]
          · rename_i h0
            cases h
            refine .inr ⟨_,_,_,_,rfl,rfl,.inl ⟨rfl,fun st2 e=>?_⟩⟩
            simp only [Yk,(hy st2 e).1,(hy st2 e).2,hd,hc,if_pos hle,if_neg h0]
            rfl
        · cases h
      · cases h
  | hs n es o l=>
    have hy : ∀ st2 : AS,(∀ m∈Qz (.hs n es o l) ++ Qz y,find st2.hp m = find st.hp m)→Yf st2 y = Yf st y∧Yp st2 y = Yp st y∧st2.blk n = st.blk n:=fun st2 e=>
      ⟨qcu fun m hm=>e m (by simp [hm]),qgc fun m hm=>e m (by simp [hm]),e n (by simp [Qz])⟩
    simp only [Yk] at h
    split at h
    · rename_i k xs ys hb hd
      split at h
      · rename_i hc
        cases h
        refine .inr ⟨_,_,_,_,rfl,rfl,.inr ⟨n,by simp [Qz],rfl,fun st2 e=>?_⟩⟩
        obtain ⟨e1,_,e3⟩:=hy st2 e
        simp only [Yk,e1,e3,hb,hd,if_pos hc]
        rfl
      · cases h
    · rename_i k xs hb hd
      split at h
      · rename_i ys hcy
        split at h
        · rename_i hc
          cases h
          refine .inr ⟨_,_,_,_,rfl,rfl,.inr ⟨n,by simp [Qz],rfl,fun st2 e=>?_⟩⟩
          obtain ⟨e1,e2,e3⟩:=hy st2 e
          simp only [Yk,e1,e2,e3,hb,hd,hcy,if_pos hc]
          rfl
        · cases h
      · cases h
    · rename_i k xs hb
      split at h
      · rename_i ys hcy
        split at h
        · rename_i hc
          cases h
          refine .inr ⟨_,_,_,_,rfl,rfl,.inr ⟨n,by simp [Qz],rfl,fun st2 e=>?_⟩⟩
          obtain ⟨e1,e2,e3⟩:=hy st2 e
          simp only [Yk,e1,e2,e3,hb,hcy,if_pos hc]
          rfl
        · cases h
      · cases h
    · cases h
  | _=>simp [Yk] at h
theorem qau {op : Op} (h : opFn T st op = some (v,st1)) (ht : touch op = 0) : Out T st op v st1:=by
  have h0:=(qe6 (st2:=st) h q6 (fun e=>absurd ht e) (fun _ _=>rfl)).1
  subst h0
  refine .calm rfl rfl (fun _ _=>rfl) (fun _ h=>h) fun st2 he ha=>?_
  have h2:=(qe6 (st2:=st2) h q6 (fun e=>absurd ht e) he).2
  exact ⟨st2.hp,h2,fun m hm=>ha.1 m hm,fun _ _=>rfl⟩
theorem qr8 {t : TypeId} {p : Operand} (h : opFn T st (.load t p) = some (v,st1)) : Out T st (.load t p) v st1:=by
  simp only [opFn] at h
  cases hT : T t with
  | none=>simp [hT] at h
  | some i=>
    cases hp : st.ev p with
    | none=>simp [hT,hp] at h
    | some x=>
      simp only [hT,hp] at h
      obtain ⟨rfl,hl⟩:=Ya (st2:=st) h
      have hfp : fp st1 (.load t p) = (some (Qz x),[]):=by simp only [fp,hp]
      refine .calm rfl rfl (fun _ _=>rfl) (fun _ h=>h) fun st2 he ha=>?_
      rw [hfp] at ha
      refine ⟨st2.hp,?_,fun m hm=>by rw [hfp] at hm;simp at hm,fun _ _=>rfl⟩
      simp only [opFn,hT,he p (by simp [Op.operands]),hp,qpa (st:=st1) (st2:=st2) ha.2]
      exact (Ya (st2:=st2) hl).2
theorem q7p {op : Op} {mk : Nat→V} {b : Blk} (hk : (∃ es,mk = fun n=>.ref n es 0 0)∨(∃ es l,mk = fun n=>.hs n es 0 l)∨(mk = fun n=>.mp n)) (hv : v = mk st.nx) (h1 : st1 = st.new b) (hf : fp st op = (some [],[st.nx]))
    (h2 : ∀ st2 : AS,(∀ x∈op.operands,st2.ev x = st.ev x)→opFn T st2 op = some (mk st2.nx,st2.new b)) : Out T st op v st1:=by
  refine .new mk b st.hp hk hv h1 (by rw [hf];simp) (fun _ _=>rfl) (fun _ h=>h) fun st2 he ha=>⟨st2.hp,h2 st2 he,fun m hm=>ha.1 m hm,fun _ _=>rfl,fun m c hc=>.inr hc⟩
theorem qrb {t : TypeId} {p x : Operand} (h : opFn T st (.store t p x) = some (v,st1)) : Out T st (.store t p x) v st1:=by
  simp only [opFn] at h
  cases hT : T t with
  | none=>simp [hT] at h
  | some i=>
    cases hp : st.ev p with
    | none=>simp [hT,hp] at h
    | some pv=>
      cases hx : st.ev x with
      | none=>simp [hT,hp,hx] at h
      | some xv=>
        simp only [hT,hp,hx] at h
        cases hs : Zw st i pv xv with
        | none=>simp [hs] at h
        | some r=>
          simp only [hs,Option.map_some,Option.some.injEq,Prod.mk.injEq] at h
          obtain ⟨rfl,rfl⟩:=h
          obtain ⟨n,b,hn,rfl,hall⟩:=qyd hs
          have hfp : fp st (.store t p x) = (some [n],[n]):=by simp only [fp,hp,hn]
          refine .calm rfl rfl (fun m hm=>?_) (fun m hm=>q47 hm) fun st2 he ha=>?_
          · rw [hfp] at hm;exact J7 (by simp at hm;omega)
          · rw [hfp] at ha ⊢
            refine ⟨repl st2.hp n b,?_,fun m hm=>q46 (ha.1 m hm),fun m hm=>J7 (by simp at hm;omega)⟩
            simp only [opFn,hT,he p (by simp [Op.operands]),he x (by simp [Op.operands]),hp,hx,hall st2 (ha.1 n qd),Option.map_some]
theorem qo9 {args : Array Operand} {ats : Array TypeId} {s x : V} (h : evL st.ev args.toList = some [s,x]) : fp st (.call {callee:=.builtin .append,args:=args,argTypes:=ats}) = (some (Qz s ++ Qz x),st.nx::Qz s):=by
  simp only [fp,h]
theorem qob {args : Array Operand} {ats : Array TypeId} {s x : V} (h : evL st.ev args.toList = some [s,x]) : fp st (.call {callee:=.builtin .copy,args:=args,argTypes:=ats}) = (some (Qz s ++ Qz x),Qz s):=by
  simp only [fp,h]
theorem qoa {args : Array Operand} {ats : Array TypeId} {x : V} (h : evL st.ev args.toList = some [x]) : fp st (.call {callee:=.builtin .clear,args:=args,argTypes:=ats}) = (some (Qz x),Qz x):=by
  simp only [fp,h]
theorem qoc {args : Array Operand} {ats : Array TypeId} {m k : V} (h : evL st.ev args.toList = some [m,k]) : fp st (.call {callee:=.builtin .delete,args:=args,argTypes:=ats}) = (some (Qz m),Qz m):=by
  simp only [fp,h]
theorem qr9 {t : TypeId} {x k : Operand} {ok : Bool} (h : opFn T st (.lookup t x k ok) = some (v,st1)) : Out T st (.lookup t x k ok) v st1:=by
  have h':=h
  simp only [opFn] at h
  split at h <;> try simp only [reduceCtorEq] at h
  rename_i i n kd e1 e2 e3
  split at h <;> try simp only [reduceCtorEq] at h
  rename_i ks es z e4 e5 e6
  split at h <;> try simp only [reduceCtorEq] at h
  rename_i e7
  cases hg : mget i.eagg ks z kd es with
  | none=>rw [hg] at h;simp at h
  | some e=>
    rw [hg] at h
    simp only [Option.map_some,Option.some.injEq,Prod.mk.injEq] at h
    obtain ⟨rfl,rfl⟩:=h
    have hfp : fp st (.lookup t x k ok) = (some [n],[]):=by simp only [fp,e2];rfl
    refine .calm rfl rfl (fun _ _=>rfl) (fun _ h=>h) fun st2 he ha=>?_
    rw [hfp] at ha
    have e' : st2.blk n = st.blk n:=ha.2 n qd
    refine ⟨st2.hp,?_,fun m hm=>by rw [hfp] at hm;simp at hm,fun _ _=>rfl⟩
    simp only [opFn,e1,he x (by simp [Op.operands]),he k (by simp [Op.operands]),e2,e3,e4,e',e5,e6,if_pos e7,hg,Option.map_some]
theorem qra {t : TypeId} {m k x : Operand} (h : opFn T st (.mapUpdate t m k x) = some (v,st1)) : Out T st (.mapUpdate t m k x) v st1:=by
  simp only [opFn] at h
  split at h <;> try simp only [reduceCtorEq] at h
  rename_i i n kd vd e1 e2 e3 e3'
  split at h <;> try simp only [reduceCtorEq] at h
  rename_i ks es e4 e5
  split at h <;> try simp only [reduceCtorEq] at h
  rename_i e7
  cases hg : mput i.eagg ks kd vd es with
  | none=>rw [hg] at h;simp at h
  | some es'=>
    rw [hg] at h
    simp only [Option.map_some,Option.some.injEq,Prod.mk.injEq] at h
    obtain ⟨rfl,rfl⟩:=h
    have hfp : fp st (.mapUpdate t m k x) = (some [n],[n]):=by simp only [fp,e2];rfl
    refine .calm rfl rfl (fun m hm=>?_) (fun m hm=>q47 hm) fun st2 he ha=>?_
    · rw [hfp] at hm;exact J7 (by simp at hm;omega)
    · rw [hfp] at ha ⊢
      have e' : st2.blk n = st.blk n:=ha.1 n qd
      refine ⟨repl st2.hp n (.mp es'),?_,fun m hm=>q46 (ha.1 m hm),fun m hm=>J7 (by simp at hm;omega)⟩
      simp only [opFn,e1,he m (by simp [Op.operands]),he k (by simp [Op.operands]),he x (by simp [Op.operands]),e2,e3,e3',e4,e',e5,if_pos e7,hg,Option.map_some]
      rfl
theorem qr7 {b : Builtin} {args : Array Operand} {ats : Array TypeId} (h : opFn T st (.call {callee:=.builtin b,args:=args,argTypes:=ats}) = some (v,st1)) : Out T st (.call {callee:=.builtin b,args:=args,argTypes:=ats}) v st1:=by
  have h0:=h
  simp only [opFn] at h
  cases hv : evL st.ev args.toList with
  | none=>simp [hv] at h
  | some vs=>
    simp only [hv] at h
    have hev : ∀ st2 : AS,(∀ x∈(Op.call {callee:=.builtin b,args:=args,argTypes:=ats}).operands,st2.ev x = st.ev x)→evL st2.ev args.toList = some vs:=fun st2 he=>by
      rw [q79 fun x hx=>he x (by simpa [Op.operands,Call.operands] using hx)];exact hv
    cases b
    case append=>
      match vs,h with
      | [s,x],h=>
        have hf:=qo9 (ats:=ats) hv
        simp only [Kt] at h
        split at h
        · rename_i t u e1 e2
          split at h
          · rename_i i j e3 e4
            split at h
            · rename_i hc
              have hop : ∀ st2 : AS,(∀ x∈(Op.call {callee:=.builtin .append,args:=args,argTypes:=ats}).operands,st2.ev x = st.ev x)→opFn T st2 (.call {callee:=.builtin .append,args:=args,argTypes:=ats}) = Yk st2 i s x:=fun st2 he=>by
                simp only [opFn,hev st2 he,Kt,e1,e2,e3,e4,if_pos hc]
              rcases qlt h with ⟨rfl,hall⟩ | ⟨es,l,b,hp1,rfl,rfl,⟨rfl,hall⟩ | ⟨n,hn,rfl,hall⟩⟩
              · refine .calm rfl rfl (fun _ _=>rfl) (fun _ h=>h) fun st2 he ha=>?_
                rw [hf] at ha
                exact ⟨st2.hp,(hop st2 he).trans (hall st2 ha.2),fun m hm=>ha.1 m (by rw [hf] at hm;exact hm),fun _ _=>rfl⟩
              · refine .new (fun n=>.hs n es 0 l) b _ (.inr (.inl ⟨_,_,rfl⟩)) rfl rfl (by rw [hf];simp) (fun _ _=>rfl) (fun _ h=>h) fun st2 he ha=>?_
                rw [hf] at ha
                exact ⟨st2.hp,(hop st2 he).trans (hall st2 ha.2),fun m hm=>ha.1 m (by rw [hf] at hm;exact hm),fun _ _=>rfl,fun m c hc=>.inr hc⟩
              · have hne : ∀ m,m ∉ (fp st (.call {callee:=.builtin .append,args:=args,argTypes:=ats})).2→n≠m:=fun m hm e=>by
                  rw [hf] at hm;exact hm (by rw [← e];simp [hn])
                refine .new (fun n=>.hs n es 0 l) b _ (.inr (.inl ⟨_,_,rfl⟩)) rfl rfl (by rw [hf];simp) (fun m hm=>J7 (hne m hm)) (fun m hm=>q47 hm) fun st2 he ha=>?_
                rw [hf] at ha
                exact ⟨repl st2.hp n .dead,(hop st2 he).trans (hall st2 ha.2),fun m hm=>q46 (ha.1 m (by rw [hf] at hm;exact hm)),fun m hm=>J7 (hne m hm),fun m c hc=>qsv hc⟩
            · cases h
          · cases h
        · cases h
    case copy=>
      match vs,h with
      | [s,x],h=>
        have hf:=qob (ats:=ats) hv
        simp only [Kt] at h
        split at h
        · rename_i t u e1 e2
          split at h
          · rename_i i j e3 e4
            split at h
            · rename_i hc
              have hop : ∀ st2 : AS,(∀ x∈(Op.call {callee:=.builtin .copy,args:=args,argTypes:=ats}).operands,st2.ev x = st.ev x)→opFn T st2 (.call {callee:=.builtin .copy,args:=args,argTypes:=ats}) = copyV st2 s x:=fun st2 he=>by
                simp only [opFn,hev st2 he,Kt,e1,e2,e3,e4,if_pos hc]
              obtain ⟨n,b,hn,rfl,hall⟩:=qne h
              refine .calm rfl rfl (fun m hm=>?_) (fun m hm=>q47 hm) fun st2 he ha=>?_
              · rw [hf,hn] at hm;exact J7 (by simp at hm;omega)
              · rw [hf] at ha ⊢
                refine ⟨repl st2.hp n b,(hop st2 he).trans (hall st2 (ha.1 n (by simp [hn])) fun m hm=>ha.2 m (by simp [hm])),fun m hm=>q46 (ha.1 m hm),fun m hm=>J7 (by rw [hn] at hm;simp at hm;omega)⟩
            · cases h
          · cases h
        · cases h
    case clear=>
      match vs,h with
      | [x],h=>
        have hf:=qoa (ats:=ats) hv
        simp only [Kt] at h
        split at h
        · rename_i t e1
          split at h
          · rename_i i e3
            split at h
            · rename_i hc
              have hop : ∀ st2 : AS,(∀ x∈(Op.call {callee:=.builtin .clear,args:=args,argTypes:=ats}).operands,st2.ev x = st.ev x)→opFn T st2 (.call {callee:=.builtin .clear,args:=args,argTypes:=ats}) = J5 st2 i x:=fun st2 he=>by
                simp only [opFn,hev st2 he,Kt,e1,e3,if_pos hc]
              rcases qn4 h with ⟨rfl,hall⟩ | ⟨n,b,hn,rfl,hall⟩
              · refine .calm rfl rfl (fun _ _=>rfl) (fun _ h=>h) fun st2 he ha=>?_
                rw [hf] at ha
                exact ⟨st2.hp,(hop st2 he).trans (hall st2),fun m hm=>ha.1 m (by rw [hf] at hm;exact hm),fun _ _=>rfl⟩
              · refine .calm rfl rfl (fun m hm=>?_) (fun m hm=>q47 hm) fun st2 he ha=>?_
                · rw [hf,hn] at hm;exact J7 (by simp at hm;omega)
                · rw [hf] at ha ⊢
                  refine ⟨repl st2.hp n b,(hop st2 he).trans (hall st2 (ha.1 n (by simp [hn]))),fun m hm=>q46 (ha.1 m hm),fun m hm=>J7 (by rw [hn] at hm;simp at hm;omega)⟩
            · cases h
          · cases h
        · cases h
    case delete=>
      match vs,h with
      | [m,k],h=>
        have hf:=qoc (ats:=ats) hv
        simp only [Kt] at h
        split at h <;> try simp only [reduceCtorEq] at h
        rename_i t n kd e1
        split at h <;> try simp only [reduceCtorEq] at h
        rename_i i es e2 e3
        split at h <;> try simp only [reduceCtorEq] at h
        rename_i ks e4
        split at h <;> try simp only [reduceCtorEq] at h
        rename_i e5
        cases hg : mdel i.eagg ks kd es with
        | none=>rw [hg] at h;simp at h
        | some es'=>
          rw [hg] at h
          simp only [Option.map_some,Option.some.injEq,Prod.mk.injEq] at h
          obtain ⟨rfl,rfl⟩:=h
          refine .calm rfl rfl (fun m hm=>?_) (fun m hm=>q47 hm) fun st2 he ha=>?_
          · rw [hf] at hm;exact J7 (by simp [Qz] at hm;omega)
          · rw [hf] at ha ⊢
            have e' : st2.blk n = st.blk n:=ha.1 n (by simp [Qz])
            refine ⟨repl st2.hp n (.mp es'),?_,fun m hm=>q46 (ha.1 m hm),fun m hm=>J7 (by simp [Qz] at hm;omega)⟩
            simp only [opFn,hev st2 he,Kt,e1,e2,e',e3,e4,if_pos e5,hg,Option.map_some]
            rfl
    case len=>exact qau h0 rfl
    case min=>exact qau h0 rfl
    case max=>exact qau h0 rfl
    all_goals simp [Kt] at h
theorem qir {op : Op} (h : opFn T st op = some (v,st1)) : Out T st op v st1:=by
  cases op
  case load t p=>exact qr8 h
  case store t p x=>exact qrb h
  case call c=>
    obtain ⟨cal,args,ats⟩:=c
    cases cal with
    | builtin b=>exact qr7 h
    | value f=>simp [opFn] at h
    | invoke r n=>simp [opFn] at h
  case alloc t=>
    simp only [opFn] at h
    cases hT : T t with
    | none=>simp [hT] at h
    | some i=>
      simp only [hT,Option.map_some,Option.some.injEq,Prod.mk.injEq] at h
      obtain ⟨rfl,rfl⟩:=h
      exact q7p (mk:=fun n=>.ref n i.size 0 0) (.inl ⟨_,rfl⟩) rfl rfl rfl fun st2 _=>by simp only [opFn,hT];rfl
  case box t x=>
    simp only [opFn] at h
    cases hT : T t with
    | none=>simp [hT] at h
    | some i=>
      cases hx : st.ev x with
      | none=>simp [hT,hx] at h
      | some xv=>
        simp only [hT,hx] at h
        split at h
        · rename_i hc
          simp only [Option.some.injEq,Prod.mk.injEq] at h
          obtain ⟨rfl,rfl⟩:=h
          exact q7p (mk:=fun n=>.ref n i.size 0 0) (.inl ⟨_,rfl⟩) rfl rfl rfl fun st2 he=>by simp only [opFn,hT,he x (by simp [Op.operands]),hx,if_pos hc]
        · cases h
  case buildSlice t len ps=>
    simp only [opFn] at h
    cases hT : T t with
    | none=>simp [hT] at h
    | some i=>
      cases hx : Zm st.ev ps.toList with
      | none=>simp [hT,hx] at h
      | some vs=>
        simp only [hT,hx] at h
        split at h
        · rename_i l hl
          split at h
          · rename_i hc
            cases hf : q2m (List.replicate len (i.ezero.map .d)) l with
            | none=>simp [hf] at h
            | some xs=>
              simp only [hf,Option.map_some,Option.some.injEq,Prod.mk.injEq] at h
              obtain ⟨rfl,rfl⟩:=h
              exact q7p (mk:=fun n=>.hs n i.esize 0 len) (.inr (.inl ⟨_,_,rfl⟩)) rfl rfl rfl fun st2 he=>by
                have e:=qcy (ev:=st.ev) (ev':=st2.ev) (l:=ps.toList) (fun x hx=>he x (by simpa [Op.operands] using hx))
                simp only [opFn,hT,e,hx,hl,if_pos hc,hf,Option.map_some]
          · cases h
        · cases h
  case makeSlice t l c=>
    have h':=h
    simp only [opFn] at h
    split at h
    · rename_i i k n k' m e1 e2 e3
      split at h
      · rename_i hc
        simp only [Option.some.injEq,Prod.mk.injEq] at h
        obtain ⟨rfl,rfl⟩:=h
        exact q7p (mk:=fun q=>.hs q i.esize 0 n.toNat) (.inr (.inl ⟨_,_,rfl⟩)) rfl rfl rfl fun st2 he=>by
          simp only [opFn,e1,he l (by simp [Op.operands]),he c (by simp [Op.operands]),e2,e3,if_pos hc]
      · cases h
    · cases h
  case lookup=>exact qr9 h
  case mapUpdate=>exact qra h
  case makeMap t r=>
    have h':=h
    simp only [opFn] at h
    split at h <;> try simp only [reduceCtorEq] at h
    rename_i i e1
    split at h <;> try simp only [reduceCtorEq] at h
    rename_i hk
    simp only [Option.some.injEq,Prod.mk.injEq] at h
    obtain ⟨rfl,rfl⟩:=h
    exact q7p (mk:=fun n=>.mp n) (.inr (.inr rfl)) rfl rfl rfl fun st2 _=>by simp only [opFn,e1,if_pos hk]
  all_goals first | exact qau h rfl | (simp [opFn] at h;done)
end
end Go.Am
namespace Go.Am
open Go
variable {P : Program} {T : Tab}
section
variable {base : Nat} {w : World} {Z : Nat→Prop} {inj : Inj} {st st1 st2 : AS} {a : Act} {Ds : List Nat} {ops : Array Oper} {o : Oper}
structure Jq (ops : Array Oper) (o : Oper) (x : Fp) (st st2 : AS) : Prop where
  blk : qbz x st st2
  sl : ∀ t∈reads ops o,st2.get t = st.get t
theorem Jq.ev {x : Fp} (h : Jq ops o x st st2) {y : Operand} (hx : y∈o.op.operands) : st2.ev y = st.ev y:=by
  cases y with
  | tmp t=>exact h.sl t (List.mem_append_left _ (by unfold slotsOf;rw [List.mem_filterMap];exact ⟨.tmp t,by simpa using hx,rfl⟩))
  | const v=>rfl
  | func f=>rfl
  | global g=>rfl
theorem Jq.guard {x : Fp} (h : Jq ops o x st st2) : Qi ops st2 o = Qi ops st o:=by
  have hs:=h.sl
  unfold reads at hs
  unfold Qi
  cases hg : o.guard with
  | none=>rfl
  | some jw=>
    obtain ⟨j,want⟩:=jw
    simp only [hg] at hs
    simp only
    cases hd : (ops[j]?).bind (·.dst) with
    | none=>rfl
    | some t=>
      simp only [hd] at hs
      simp only
      rw [hs t qd]
theorem Jq.callee {x : Fp} (h : Jq ops o x st st2) {c : Call} (ho : o.op = .call c) : callee st2 c = callee st c:=by
  obtain ⟨cal,args,argTypes⟩:=c
  unfold Am.callee
  cases cal with
  | builtin b=>rfl
  | invoke r n=>rfl
  | value f=>
    simp only
    rw [h.ev (y:=f) (by rw [ho];simp [Op.operands,Call.operands]),q79 (fun x hx=>h.ev (y:=x) (by rw [ho];simp [Op.operands,Call.operands];exact .inr (by simpa using hx)))]
theorem Ym {st : AS} {d : Option Tmp} {v : V} {t : Tmp} : (st.putD d v).get t = if d = some t then some v else st.get t:=by
  cases d with
  | none=>simp [AS.putD]
  | some d=>simp only [AS.putD,AS.put,AS.get,Kh,Option.some.injEq]
theorem qf2 {w : World} {Z : Nat→Prop} {inj : Inj} {nx : Nat} {fz : List Nat} {st0 : AS} {v : V} {x : Value} (h : RelV w Z inj nx v x) : Wv st0 (fun n=>n) fz [] nx v v:=by
  induction h with
  | d h=>exact .d (.refl _)
  | @agg ds cs hl _ ih=>
    exact .agg rfl fun i c d hc hd=>by
      rw [hc] at hd;cases hd
      obtain ⟨y,hy⟩:=Kp (xs:=cs) (i:=i) (by rw [← hl];exact K4 hc)
      exact ih i c y hc hy
  | @tup ds cs hl _ ih=>
    exact .tup rfl fun i c d hc hd=>by
      rw [hc] at hd;cases hd
      obtain ⟨y,hy⟩:=Kp (xs:=cs) (i:=i) (by rw [← hl];exact K4 hc)
      exact ih i c y hc hy
  | @fn f ds cs hl _ ih=>
    exact .fn rfl fun i c d hc hd=>by
      rw [hc] at hd;cases hd
      obtain ⟨y,hy⟩:=Kp (xs:=cs) (i:=i) (by rw [← hl];exact K4 hc)
      exact ih i c y hc hy
  | ref h1 h2=>exact .ref rfl qd h1
  | @dref cs j _ _ _ _ _=>exact .dref cs j
  | hsnil h1=>exact .hs rfl qd h1
  | hs h1 _ _ _=>exact .hs rfl qd h1
  | yld h1 _=>exact .yld rfl qd h1
  | mp h1 _=>exact .mp rfl qd h1
  | dead v=>exact .dead _
theorem qz5 {w : World} {Z : Nat→Prop} {inj : Inj} {nx n : Nat} {fz : List Nat} {st0 : AS} {b : Blk} (h : RelB w Z inj nx n b) : Wb st0 (fun n=>n) fz [] nx b b:=by
  cases b with
  | dead=>exact .dead _
  | dat es xs=>exact .dat _ _
  | mp es=>exact .mp _
  | cel es xs=>
    obtain ⟨_,_,h3⟩:=h
    refine .cel rfl fun i x y hx hy=>?_
    rw [hx] at hy;cases hy
    refine ⟨rfl,fun j c d hc hd=>?_⟩
    rw [hc] at hd;cases hd
    rcases h3 with ⟨rfl,_⟩ | ⟨b,o,arr,ty,_,_,h5⟩
    · simp at hx
    · obtain ⟨h6,c',_,h8⟩:=h5 i x j c hx hc
      exact ⟨qf2 h8,h6⟩
  | loop s ps assign body dn pe=>
    obtain ⟨b,tmps,D,fn,_,_,_,h4⟩:=h
    refine .loop fun t v' hv=>?_
    obtain ⟨x,_,hr⟩:=h4 t v' hv
    exact ⟨v',hv,qf2 hr⟩
theorem qh9 {w' : World} {Z' : Nat→Prop} {inj' : Inj} {a' : Act} {Ds' : List Nat} {dst : Option Tmp} {n es : Nat} {xs : List (List DV)} {hp2 : List (Nat × Blk)} (h1 : RelS w' Z' inj' (st1.putD dst (.hs n es 0 xs.length)) a' Ds') (hh : st1.hp = (n,.dat es xs)::hp2) (hf : find hp2 n = none) (hn : base≤n) (h4 : base≤st1.nx) :
    Wk base (fun n=>n) [n] [] (st1.putD dst (.hs n es 0 xs.length)) (({sl:=st1.sl,hp:=hp2,nx:=st1.nx} : AS).putD dst (.d (.sl es xs))):=by
  have hnx : (({sl:=st1.sl,hp:=hp2,nx:=st1.nx} : AS).putD dst (.d (.sl es xs))).nx = st1.nx:=Y8 _ _ _
  have hhp : (({sl:=st1.sl,hp:=hp2,nx:=st1.nx} : AS).putD dst (.d (.sl es xs))).hp = hp2:=Y7 _ _ _
  have hblk : ∀ m b,find hp2 m = some b→m≠n∧find (st1.putD dst (.hs n es 0 xs.length)).hp m = some b:=by
    intro m b hm
    have hne : m≠n:=by rintro rfl;rw [hf] at hm;cases hm
    refine ⟨hne,?_⟩
    rw [Y7,hh,Kh,if_neg (by intro e;exact hne e.symm)];exact hm
  refine ⟨?_,?_,?_,?_,fun _ _=>rfl,by rw [hnx];exact h4,fun m hm=>by simp at hm;omega,fun m hm=>by cases hm⟩
  · intro t v' hv
    rw [hnx]
    rw [Ym] at hv
    by_cases ht : dst = some t
    · rw [if_pos ht] at hv;cases hv
      refine ⟨_,by rw [Ym,if_pos ht],.frz (k:=es) (xs:=xs) ?_ qd q6 qd rfl⟩
      show find (st1.putD dst _).hp n = _
      rw [Y7,hh,Kh,if_pos rfl]
    · rw [if_neg ht] at hv
      have hg : (st1.putD dst (.hs n es 0 xs.length)).get t = some v':=by rw [Ym,if_neg ht];exact hv
      obtain ⟨x,_,hr⟩:=h1.slots t v' hg
      rw [Y8] at hr
      exact ⟨v',hg,qf2 hr⟩
  · intro m b' hm
    rw [hnx]
    unfold AS.blk at hm
    rw [hhp] at hm
    obtain ⟨hne,hm'⟩:=hblk m b' hm
    obtain ⟨k1,k2⟩:=h1.heap.blk m b' hm'
    rw [Y8] at k1 k2
    exact ⟨k1,.inr ⟨qd,b',hm',qz5 k2⟩⟩
  · intro m k b c _ _ _ _ e;exact e
  · intro m b hm _ hc
    unfold AS.blk at hm
    rw [hhp] at hm
    simp at hc
    exact (hblk m b hm).1 hc
theorem qrn {w : World} {Z : Nat→Prop} {inj : Inj} {a a' : Act} {Ds : List Nat} {w' : World} {dst : Option Tmp} {n es : Nat} {xs : List (List DV)} {hp2 : List (Nat × Blk)}
    (h : Ki base w Z inj st a Ds (st1.putD dst (.hs n es 0 xs.length)) a' w') (hh : st1.hp = (n,.dat es xs)::hp2) (hf : find hp2 n = none) (hn : base≤n) :
    Ki base w Z inj st a Ds (({sl:=st1.sl,hp:=hp2,nx:=st1.nx} : AS).putD dst (.d (.sl es xs))) a' w':=by
  obtain ⟨Z',inj',Ds',h1,h2,h3,h4,h5⟩:=h
  obtain ⟨hrel,hext⟩:=q16 h1 (qh9 h1 hh hf hn (by rw [Y8] at h4;exact h4))
  exact ⟨_,_,Ds',hrel,h2.trans hext (Nat.le_refl _),h3,by rw [Y8];rw [Y8] at h4;exact h4,h5⟩
theorem qok {n es : Nat} {xs : List (List DV)} {hp2 : List (Nat × Blk)} (hT : Yj P T) (hg : Qi ops st o = some true) (ho : opFn T st o.op = some (.hs n es 0 xs.length,st1)) (hn : st.nx≤n) (hh : st1.hp = (n,.dat es xs)::hp2) (hf : find hp2 n = none) :
    J0 P base ops o st (({sl:=st1.sl,hp:=hp2,nx:=st1.nx} : AS).putD o.dst (.d (.sl es xs))):=by
  intro ro Q w Z inj a Ds K h hd hb hro hK
  exact qd8 hT hg ho ro Q w Z inj a Ds K h hd hb hro fun a' w' hp=>hK a' w' (qrn hp hh hf (Nat.le_trans hb hn))
theorem q86 {w : World} {Z : Nat→Prop} {inj inj' : Inj} {nx : Nat} {v : V} {x : Value} (h : RelV w Z inj nx v x) (hi : ∀ n p,n < nx→inj n = some p→inj' n = some p) : RelV w Z inj' nx v x:=by
  induction h with
  | d h=>exact .d h
  | agg hl _ ih=>exact .agg hl ih
  | tup hl _ ih=>exact .tup hl ih
  | fn hl _ ih=>exact .fn hl ih
  | ref h1 h2=>exact .ref h1 (hi _ _ h1 h2)
  | dref h1 h2 h3=>exact .dref h1 h2 h3
  | hsnil h1=>exact .hsnil h1
  | hs h1 h2 hsp h3=>
    refine .hs h1 h2 hsp fun hc=>?_
    obtain ⟨b,o,e1,e2,e3⟩:=h3 hc
    exact ⟨b,o,hi _ _ h1 e1,e2,e3⟩
  | yld h1 h2=>exact .yld h1 (hi _ _ h1 h2)
  | mp h1 h2=>exact .mp h1 (hi _ _ h1 h2)
  | dead v=>exact .dead v
theorem qjn {w : World} {Z : Nat→Prop} {inj inj' : Inj} {nx n : Nat} {b : Blk} (h : RelB w Z inj nx n b) (hi : ∀ n p,n < nx→inj n = some p→inj' n = some p) (hn : n < nx) (hnone : inj n = none→inj' n = none) : RelB w Z inj' nx n b:=by
  cases b with
  | dead=>trivial
  | dat es xs=>
    obtain ⟨h1,h2,h3⟩:=h
    refine ⟨h1,h2,?_⟩
    rcases h3 with ⟨h3,h4⟩ | ⟨b,o,arr,ty,h3,h4,h5⟩
    · exact .inl ⟨h3,hnone h4⟩
    · exact .inr ⟨b,o,arr,ty,hi _ _ hn h3,h4,h5⟩
  | mp es=>
    obtain ⟨b,ents,cl,h1,h2⟩:=h
    exact ⟨b,ents,cl,hi _ _ hn h1,h2⟩
  | cel es xs=>
    obtain ⟨h1,h2,h3⟩:=h
    refine ⟨h1,h2,?_⟩
    rcases h3 with ⟨h3,h4⟩ | ⟨b,o,arr,ty,h3,h4,h5⟩
    · exact .inl ⟨h3,hnone h4⟩
    · refine .inr ⟨b,o,arr,ty,hi _ _ hn h3,h4,fun i x j d hx hd=>?_⟩
      obtain ⟨h6,c,h7,h8⟩:=h5 i x j d hx hd
      exact ⟨h6,c,h7,q86 h8 hi⟩
  | loop s ps assign body dn pe=>
    obtain ⟨b,tmps,D,fn,h1,h2,h3,h4⟩:=h
    refine ⟨b,tmps,D,fn,hi _ _ hn h1,h2,h3,fun t v ht=>?_⟩
    obtain ⟨x,hx,hr⟩:=h4 t v ht
    exact ⟨x,hx,q86 hr hi⟩
def q9w (base lo hi : Nat) (w : World) (Z : Nat→Prop) (inj : Inj) (st : AS) (a : Act) (Ds : List Nat) (st' : AS) (a' : Act) (w' : World) : Prop:=
  ∃ Z' inj' Ds',RelS w' Z' inj' st' a' Ds'∧Ext w Z inj st.hp w' Z' inj' st'.hp base∧a'.tmps.size = a.tmps.size∧(∀ D∈Ds',D∈Ds∨w.heap.size≤D)∧∀ m,m < st.nx→(m < lo∨hi≤m)→inj' m = inj m
def qc1 (P : Program) (base : Nat) (ops : Array Oper) (o : Oper) (st st' : AS) (lo hi : Nat) : Prop:=
  ∀ (ro : Option Nat) (Q : Exit→Act→World→Prop) (w : World) (Z : Nat→Prop) (inj : Inj) (a : Act) (Ds : List Nat) (K : Act→World→Prop),RelS w Z inj st a Ds→Zl a.tmps.size o.dst = true→base≤lo→base≤st.nx→Y3 ro w→(∀ m,lo≤m→m < hi→inj m = none)→
    (∀ a' w',q9w base lo hi w Z inj st a Ds st' a' w'→K a' w')→Jp P (Fw ro) ops Q o K a w
theorem qhh {st' : AS} {lo hi : Nat} (h : J0 P st.nx ops o st st') : qc1 P base ops o st st' lo hi:=by
  intro ro Q w Z inj a Ds K hr hd _ hb hro _ hK
  refine h ro Q w Z inj a Ds K hr hd (Nat.le_refl _) hro fun a' w' hp=>hK a' w' ?_
  obtain ⟨Z',inj',Ds',h1,h2,h3,h4,h5⟩:=hp
  exact ⟨Z',inj',Ds',h1,h2.pin_le hb,h3,h5,fun m hm _=>h2.pinj m hm⟩
theorem qjt {w : World} {Z : Nat→Prop} {inj : Inj} {w' : World} {Z' : Nat→Prop} {inj' inj2 : Inj} {N N' : Nat} {v : V} {x x' : Value} (h : RelV w Z inj N v x) (h' : RelV w' Z' inj' N' v x') (hi : ∀ m p,m < N→inj' m = some p→inj2 m = some p) : RelV w' Z' inj2 N v x':=by
  induction h' generalizing x with
  | d h'=>exact .d h'
  | @agg ds cs hl _ ih=>
    cases h with | @agg _ cs0 hl0 h0=>
    refine .agg hl fun i d c hd hc=>?_
    obtain ⟨y,hy⟩:=Kp (xs:=cs0) (i:=i) (by rw [← hl0];exact K4 hd)
    exact ih i d c hd hc (h0 i d y hd hy)
  | @tup ds cs hl _ ih=>
    cases h with | @tup _ cs0 hl0 h0=>
    refine .tup hl fun i d c hd hc=>?_
    obtain ⟨y,hy⟩:=Kp (xs:=cs0) (i:=i) (by rw [← hl0];exact K4 hd)
    exact ih i d c hd hc (h0 i d y hd hy)
  | @fn f ds cs hl _ ih=>
    cases h with | @fn _ _ cs0 hl0 h0=>
    refine .fn hl fun i d c hd hc=>?_
    obtain ⟨y,hy⟩:=Kp (xs:=cs0) (i:=i) (by rw [← hl0];exact K4 hd)
    exact ih i d c hd hc (h0 i d y hd hy)
  | ref h1 h2=>
    have hn:=by cases h with | ref h1 _=>exact h1
    exact .ref hn (hi _ _ hn h2)
  | dref h1 h2 h3=>exact .dref h1 h2 h3
  | hsnil h1=>
    have hn:=by cases h with
      | hsnil h1=>exact h1
      | hs h1 _ _ _=>exact h1
    exact .hsnil hn
  | hs h1 h2 hsp h3=>
    have hn:=by cases h with
      | hsnil h1=>exact h1
      | hs h1 _ _ _=>exact h1
    refine .hs hn h2 hsp fun hc=>?_
    obtain ⟨b,o,e1,e2,e3⟩:=h3 hc
    exact ⟨b,o,hi _ _ hn e1,e2,e3⟩
  | yld h1 h2=>
    have hn:=by cases h with | yld h1 _=>exact h1
    exact .yld hn (hi _ _ hn h2)
  | mp h1 h2=>
    have hn:=by cases h with | mp h1 _=>exact h1
    exact .mp hn (hi _ _ hn h2)
  | dead v=>exact .dead v
theorem qso {w : World} {Z : Nat→Prop} {inj : Inj} {w' : World} {Z' : Nat→Prop} {inj' inj2 : Inj} {N N' n : Nat} {b : Blk} (h : RelB w Z inj N n b) (h' : RelB w' Z' inj' N' n b) (hi : ∀ m p,m < N→inj' m = some p→inj2 m = some p) (hn : inj2 n = inj' n) : RelB w' Z' inj2 N n b:=by
  cases b with
  | dead=>trivial
  | dat es xs=>
    obtain ⟨h1,h2,h3⟩:=h'
    refine ⟨h1,h2,?_⟩
    rw [hn];exact h3
  | mp es=>
    obtain ⟨b,ents,cl,h1,h2⟩:=h'
    exact ⟨b,ents,cl,hn.trans h1,h2⟩
  | cel es xs=>
    obtain ⟨h1,h2,h3⟩:=h'
    refine ⟨h1,h2,?_⟩
    rw [hn]
    rcases h3 with h3 | ⟨b,o,arr,ty,h3,h4,h5⟩
    · exact .inl h3
    · refine .inr ⟨b,o,arr,ty,h3,h4,fun i x j d hx hd=>?_⟩
      obtain ⟨h6,c,h7,h8⟩:=h5 i x j d hx hd
      obtain ⟨_,_,k3⟩:=h
      rcases k3 with ⟨rfl,_⟩ | ⟨_,_,_,_,_,_,k5⟩
      · simp at hx
      · obtain ⟨_,c0,_,k8⟩:=k5 i x j d hx hd
        exact ⟨h6,c,h7,qjt k8 h8 hi⟩
  | loop s ps assign body dn pe=>
    obtain ⟨b,tmps,D,fn,h1,h2,h3,h4⟩:=h'
    obtain ⟨_,_,_,_,_,_,_,k4⟩:=h
    refine ⟨b,tmps,D,fn,hn.trans h1,h2,h3,fun t v ht=>?_⟩
    obtain ⟨x,hx,hr⟩:=h4 t v ht
    obtain ⟨x0,_,hr0⟩:=k4 t v ht
    exact ⟨x,hx,qjt hr0 hr hi⟩
theorem qhg {mk : Nat→V} {es q : Nat} {xs : List (List DV)} {hp3 : List (Nat × Blk)} (hT : Yj P T) (hg : Qi ops st o = some true) (hk : (∃ es,mk = fun n=>.ref n es 0 0)∨(∃ es l,mk = fun n=>.hs n es 0 l)∨(mk = fun n=>.mp n))
    (ho : opFn T st o.op = some (mk st.nx,⟨st.sl,(st.nx,.dat es xs)::hp3,st.nx + 1⟩)) (hq : q < st.nx) (hfree : find st.hp q = none) (hold : ∀ m c,find hp3 m = some c→c = .dead∨find st.hp m = some c) (hnone : ∀ m,find st.hp m = none→find hp3 m = none) :
    qc1 P base ops o st (({sl:=st.sl,hp:=(q,.dat es xs)::hp3,nx:=st.nx} : AS).putD o.dst (mk q)) q (q + 1):=by
  intro ro Q w Z inj a Ds K h hd hlo hb _ hres hK
  have hiq : inj q = none:=hres q (Nat.le_refl _) q6
  unfold Jp
  rw [q2o h hg]
  simp only [if_true]
  refine ⟨fun _ _=>trivial,?_⟩
  rw [show (Fw ro).round = ro from rfl,Oper.semAt_eq ro _ o (qiv ho)]
  obtain ⟨x,w',inj',hr,hv,hh,he,-,-⟩:=qiw hT h ho
  simp only at hv hh he
  obtain ⟨inj2,hi2⟩ : ∃ inj2 : Inj,inj2 = fun m=>if m = q then inj' st.nx else inj' m:=⟨_,rfl⟩
  have h2q : inj2 q = inj' st.nx:=by rw [hi2];simp
  have h2n : ∀ m,m≠q→inj2 m = inj' m:=fun m hm=>by rw [hi2];simp [hm]
  have hi : ∀ m p,m < st.nx→inj' m = some p→inj2 m = some p:=fun m p hm hp=>by
    by_cases hmq : m = q
    · subst hmq;rw [he.pinj m hm,hiq] at hp;cases hp
    · rw [h2n m hmq];exact hp
  have hlt : ∀ m c,find hp3 m = some c→m < st.nx:=fun m c hm=>by
    cases hf : find st.hp m with
    | none=>rw [hnone m hf] at hm;cases hm
    | some b=>exact (h.heap.blk m b hf).1
  have hne : ∀ m c,find hp3 m = some c→m≠q:=fun m c hm e=>by
    subst e;rw [hnone m hfree] at hm;cases hm
  have up : ∀ m c,find hp3 m = some c→find ((st.nx,Blk.dat es xs)::hp3) m = some c:=fun m c hm=>by
    rw [Kh,if_neg (by have:=hlt m c hm;omega)];exact hm
  have htop : find ((st.nx,Blk.dat es xs)::hp3) st.nx = some (.dat es xs):=by rw [Kh,if_pos rfl]
  have back : ∀ m c,find ((q,Blk.dat es xs)::hp3) m = some c→∃ m',find ((st.nx,Blk.dat es xs)::hp3) m' = some c∧inj2 m = inj' m'∧((m = q∧m' = st.nx)∨(m≠q∧m' = m)):=by
    intro m c hm
    rw [Kh] at hm
    by_cases hmq : q = m
    · subst hmq
      rw [if_pos rfl] at hm;cases hm
      exact ⟨_,htop,h2q,.inl ⟨rfl,rfl⟩⟩
    · rw [if_neg hmq] at hm
      exact ⟨m,up m c hm,h2n m (Ne.symm hmq),.inr ⟨Ne.symm hmq,rfl⟩⟩
  have hH : RelH w' Z inj2 ((q,Blk.dat es xs)::hp3) st.nx:=by
    refine ⟨fun m c hm=>?_,fun m n b c p r h1 h2 h3 h4 h5 h6 hmn=>?_,fun m b p h1 h2 h3=>?_,hh.zs,hh.zc⟩
    · rw [Kh] at hm
      by_cases hmq : q = m
      · subst hmq
        rw [if_pos rfl] at hm;cases hm
        refine ⟨hq,?_⟩
        obtain ⟨_,k1,k2,k3⟩:=hh.blk st.nx _ htop
        exact ⟨k1,k2,by rw [h2q];exact k3⟩
      · rw [if_neg hmq] at hm
        refine ⟨hlt m c hm,?_⟩
        rcases hold m c hm with rfl | hm'
        · trivial
        · exact qso (h.heap.blk m c hm').2 (hh.blk m c (up m c hm)).2 hi (h2n m (Ne.symm hmq))
    · obtain ⟨m',a1,a2,a3⟩:=back m b h1
      obtain ⟨n',b1,b2,b3⟩:=back n c h2
      refine hh.sep m' n' b c p r a1 b1 h3 h4 (a2 ▸ h5) (b2 ▸ h6) ?_
      rcases a3 with ⟨rfl,rfl⟩ | ⟨a3,rfl⟩ <;> rcases b3 with ⟨rfl,rfl⟩ | ⟨b3,rfl⟩
      · exact absurd rfl hmn
      · intro e
        have : find hp3 n' = some c:=by rw [Kh,if_neg (Ne.symm b3)] at h2;exact h2
        have:=hlt _ _ this;omega
      · intro e
        have : find hp3 m' = some b:=by rw [Kh,if_neg (Ne.symm a3)] at h1;exact h1
        have:=hlt _ _ this;omega
      · exact hmn
    · obtain ⟨m',a1,a2,_⟩:=back m b h1
      exact hh.out m' b p a1 h2 (a2 ▸ h3)
  have hE : Ext w Z inj st.hp w' Z inj2 ((q,Blk.dat es xs)::hp3) base:=by
    refine ⟨he.size,he.keep,?_,he.big,he.loops,he.zin,he.zout,fun n hn=>?_,he.tape,he.os,he.output,he.frz⟩
    · rintro b ⟨m,c,off,g1,g2,g3⟩
      obtain ⟨m',a1,a2,_⟩:=back m c g1
      exact he.imm b ⟨m',c,off,a1,g2,a2 ▸ g3⟩
    · rw [h2n n q6];exact he.pinj n q6
  have hV : RelV w' Z inj2 st.nx (mk q) x:=by
    rcases hk with ⟨es,rfl⟩ | ⟨es,l,rfl⟩ | rfl
    rotate_right
    · cases hv with | mp h1 h2=>exact .mp hq (h2q.trans h2)
    · cases hv with | ref h1 h2=>exact .ref hq (h2q.trans h2)
    · cases hv with
      | hsnil h1=>exact .hsnil hq
      | hs h1 h2 hsp h3=>
        refine .hs hq h2 hsp fun hc=>?_
        obtain ⟨b,o,e1,e2,e3⟩:=h3 hc
        exact ⟨b,o,h2q.trans e1,e2,e3⟩
  have hS : Yc w' Z inj2 st.nx st.sl a.tmps:=fun t v ht=>by
    obtain ⟨y,hy,hr⟩:=h.slots t v ht
    exact ⟨y,hy,q86 (hr.mono (he.zkeep h.heap) he.zin he.big he.pinj (Nat.le_refl _)) hi⟩
  have hpost : q9w base q (q + 1) w Z inj st a Ds (({sl:=st.sl,hp:=(q,.dat es xs)::hp3,nx:=st.nx} : AS).putD o.dst (mk q)) (a.put o.dst x) w':=by
    refine ⟨Z,inj2,Ds,?_,by rw [Y7];exact hE,qj5 _ _ _,fun _ h=>.inl h,fun m hm hmq=>?_⟩
    · generalize hdst : o.dst = dst at hd
      cases dst with
      | none=>exact ⟨hS,hH,h.defs,h.nodup,fun D hD=>he.marks h.heap (h.marks D hD)⟩
      | some t=>exact ⟨hS.put hV (qgi hd),hH,h.defs,h.nodup,fun D hD=>he.marks h.heap (h.marks D hD)⟩
    · rw [h2n m q6];exact he.pinj m hm
  rcases hr with hr | ⟨hr,rfl⟩
  · rw [hr];exact hK _ _ hpost
  · rw [hr];exact hK _ _ hpost
theorem qrm {w : World} {Z : Nat→Prop} {inj : Inj} {a a' : Act} {Ds : List Nat} {w' : World} {dst : Option Tmp} {n es lo hi : Nat} {xs : List (List DV)} {hp2 : List (Nat × Blk)} (hbn : base≤st1.nx)
    (h : q9w base lo hi w Z inj st a Ds (st1.putD dst (.hs n es 0 xs.length)) a' w') (hh : st1.hp = (n,.dat es xs)::hp2) (hf : find hp2 n = none) (hn : base≤n) :
    q9w base lo hi w Z inj st a Ds (({sl:=st1.sl,hp:=hp2,nx:=st1.nx} : AS).putD dst (.d (.sl es xs))) a' w':=by
  obtain ⟨Z',inj',Ds',h1,h2,h3,h4,h5⟩:=h
  have hp : Ki base w Z inj st a Ds (st1.putD dst (.hs n es 0 xs.length)) a' w':=⟨Z',inj',Ds',h1,h2,h3,by rw [Y8];exact hbn,h4⟩
  obtain ⟨hrel,hext⟩:=q16 h1 (qh9 h1 hh hf hn hbn)
  refine ⟨_,_,Ds',hrel,h2.trans hext (Nat.le_refl _),h3,h4,fun m hm hmq=>?_⟩
  rw [← h5 m hm hmq];simp [wkI]
structure J2 (P : Program) (ops : Array Oper) (o : Oper) (x : Fp) (st st1 : AS) : Prop where
  nx : st.nx≤st1.nx
  sl : ∀ t,o.dst≠some t→st1.get t = st.get t
  hp : ∀ m,m ∉ x.2→find st1.hp m = find st.hp m
  keys : ∀ m,st1.nx≤m→find st.hp m = none→find st1.hp m = none
  fresh : ∀ m,st.nx≤m→m < st1.nx→m∈x.2
  other : ∀ st2,st1.nx≤st2.nx→Jq ops o x st st2→(∀ m,st.nx≤m→m < st1.nx→find st2.hp m = none)→∃ st3,st3.nx = st2.nx∧(∀ base,qc1 P base ops o st2 st3 st.nx st1.nx)∧
    (∀ t,o.dst≠some t→st3.get t = st2.get t)∧(∀ t,o.dst = some t→st3.get t = st1.get t)∧(∀ m∈x.2,find st3.hp m = find st1.hp m)∧(∀ m,m ∉ x.2→find st3.hp m = find st2.hp m)
theorem qex : ∀ {b : List Nat} {n : Nat},hasN b n = true→n∈b
  | a::r,n,h=>by
    simp only [hasN,Bool.or_eq_true] at h
    rcases h with h | h
    · rw [Nat.eq_of_beq_eq_true h];simp
    · exact List.mem_cons_of_mem _ (qex h)
theorem qic : ∀ {b : List Nat} {n : Nat},n∈b→hasN b n = true
  | a::r,n,h=>by
    simp only [hasN,Bool.or_eq_true]
    rcases List.mem_cons.1 h with rfl | h
    · left;exact Nat.beq_refl _
    · exact .inr (qic h)
theorem qh5 (y : Fp) : fpLe (some [],[]) y = true:=by
  unfold fpLe
  cases y.1 <;> rfl
theorem J2.mono {x y : Fp} (h : J2 P ops o x st st1) (hl : fpLe x y = true) : J2 P ops o y st st1:=by
  simp only [fpLe,Bool.and_eq_true,subN,List.all_eq_true] at hl
  obtain ⟨h2,h1⟩:=hl
  have hW : ∀ m∈x.2,m∈y.2:=fun m hm=>qex (h2 m hm)
  refine ⟨h.nx,h.sl,fun m hm=>h.hp m fun e=>hm (hW m e),h.keys,fun m ha hb=>hW m (h.fresh m ha hb),fun st2 hn ha hf=>?_⟩
  have ha' : Jq ops o x st st2:=by
    refine ⟨⟨fun m hm=>ha.blk.1 m (hW m hm),?_⟩,ha.sl⟩
    have hb:=ha.blk.2
    revert h1 hb
    cases y.1 with
    | none=>
      intro _ hb
      cases x.1 with
      | none=>exact hb
      | some r=>exact fun m _=>hb m
    | some r=>
      cases x.1 with
      | none=>simp
      | some r'=>
        intro h1 hb m hm
        exact hb m (qex (by simpa using List.all_eq_true.1 h1 m hm))
  obtain ⟨st3,e1,e2,e3,e4,e5,e6⟩:=h.other st2 hn ha' hf
  refine ⟨st3,e1,e2,e3,e4,fun m hm=>?_,fun m hm=>e6 m fun e=>hm (hW m e)⟩
  by_cases hx : m∈x.2
  · exact e5 m hx
  · rw [e6 m hx,h.hp m hx];exact ha.blk.1 m hm
theorem qkx {v : V} {x : Fp} (hx : x.2 = []) (h2 : ∀ st2,Jq ops o x st st2→J0 P st2.nx ops o st2 (st2.putD o.dst v)) : J2 P ops o x st (st.putD o.dst v):=by
  refine ⟨by rw [Y8];exact Nat.le_refl _,fun t h=>by rw [Ym,if_neg h],fun m _=>by rw [Y7],fun m _ h=>by rw [Y7];exact h,fun m h1 h2=>by rw [Y8] at h2;omega,fun st2 hn ha _=>?_⟩
  refine ⟨st2.putD o.dst v,Y8 _ _ _,fun base=>qhh (h2 st2 ha),fun t h=>by rw [Ym,if_neg h],fun t h=>by rw [Ym,Ym,if_pos h,if_pos h],fun m hm=>(by rw [hx] at hm;cases hm),fun m _=>by rw [Y7]⟩
theorem qy9 (hg : Qi ops st o = some false) : J2 P ops o (some [],[]) st (st.putD o.dst (.d (.tup []))):=
  qkx rfl fun _ ha=>qhj (ha.guard.trans hg)
theorem qnj {b : Blk} {n : Nat} {sl : List (Nat × V)} {hp1 : List (Nat × Blk)} {v : V} {op : Op} (ho : opFn T st op = some (v,⟨sl,(st.nx,b)::hp1,n + 1⟩)) (hn : st.nx = n) (h : q2l st op ⟨sl,(st.nx,b)::hp1,n + 1⟩ = true) : ∃ es xs,b = .dat es xs:=by
  by_cases ht : touch op = 2
  · simp only [q2l,ht] at h
    cases b with
    | dat es xs=>exact ⟨es,xs,rfl⟩
    | _=>simp at h
  · have hle : touch op≤1:=by
      have : touch op≤2:=by unfold touch;split <;> omega
      omega
    have h0:=(qe6 (st2:=st) ho hle (fun _=>rfl) (fun _ _=>rfl)).1
    have h1:=congrArg AS.nx h0
    simp only at h1
    omega
theorem qy7 {v : V} (hT : Yj P T) (hg : Qi ops st o = some true) (ho : opFn T st o.op = some (v,st1)) (hd : q2l st o.op st1 = true) : J2 P ops o (fp st o.op) st (st1.putD o.dst v):=by
  cases qir ho with
  | calm hsl hnx hhp hnone hall=>
    have hget : ∀ t,st1.get t = st.get t:=fun t=>by unfold AS.get;rw [hsl]
    refine ⟨by rw [Y8];omega,fun t h=>by rw [Ym,if_neg h,hget],fun m hm=>by rw [Y7];exact hhp m hm,fun m _ h=>by rw [Y7];exact hnone m h,fun m h1 h2=>by rw [Y8] at h2;omega,fun st2 hn ha _=>?_⟩
    obtain ⟨hp3,k1,k2,k3⟩:=hall st2 (fun x hx=>ha.ev hx) ha.blk
    refine ⟨(⟨st2.sl,hp3,st2.nx⟩ : AS).putD o.dst v,Y8 _ _ _,fun base=>qhh (qd8 hT (ha.guard.trans hg) k1),fun t h=>by rw [Ym,if_neg h];rfl,fun t h=>by rw [Ym,Ym,if_pos h,if_pos h],fun m hm=>?_,fun m hm=>?_⟩
    · rw [Y7,Y7];exact k2 m hm
    · rw [Y7];exact k3 m hm
  | new mk b hp1 hk hv h1 hmem hhp hnone hall=>
    subst h1
    obtain ⟨es,xs,rfl⟩:=qnj ho rfl hd
    refine ⟨by rw [Y8];exact Nat.le_succ _,fun t h=>by rw [Ym,if_neg h];rfl,fun m hm=>?_,fun m hm h=>?_,fun m h1 h2=>?_,fun st2 hn ha hf=>?_⟩
    · rw [Y7,Kh,if_neg (by rintro rfl;exact hm hmem)];exact hhp m hm
    · rw [Y8] at hm
      rw [Y7,Kh,if_neg (by simp only at hm;omega)];exact hnone m h
    · rw [Y8] at h2
      have : m = st.nx:=by simp only at h2;omega
      subst this;exact hmem
    · rw [Y8] at hn hf ⊢
      simp only at hn hf
      obtain ⟨hp3,k1,k2,k3,k4⟩:=hall st2 (fun x hx=>ha.ev hx) ha.blk
      have hfree:=hf st.nx (Nat.le_refl _) q6
      refine ⟨(⟨st2.sl,(st.nx,.dat es xs)::hp3,st2.nx⟩ : AS).putD o.dst (mk st.nx),Y8 _ _ _,fun base=>qhg hT (ha.guard.trans hg) hk k1 q6 hfree k4 (fun m hm=>?_),fun t h=>by rw [Ym,if_neg h];rfl,fun t h=>by rw [Ym,Ym,if_pos h,if_pos h,hv],fun m hm=>?_,fun m hm=>?_⟩
      · by_cases hw : m∈(fp st o.op).2
        · rw [k2 m hw]
          refine hnone m ?_
          rw [← ha.blk.1 m hw];exact hm
        · rw [k3 m hw];exact hm
      · rw [Y7,Y7,Kh,Kh]
        split
        · rfl
        · exact k2 m hm
      · rw [Y7,Kh,if_neg (by rintro rfl;exact hm hmem)];exact k3 m hm
theorem qy8 {n es : Nat} {xs : List (List DV)} {hp2 : List (Nat × Blk)} (hT : Yj P T) (hg : Qi ops st o = some true) (ho : opFn T st o.op = some (.hs n es 0 xs.length,st1)) (hn : n = st.nx∧st1.nx = n + 1) (hh : st1.hp = (n,.dat es xs)::hp2) (hf : find hp2 n = none) :
    J2 P ops o (fp st o.op) st (({sl:=st1.sl,hp:=hp2,nx:=st1.nx} : AS).putD o.dst (.d (.sl es xs))):=by
  obtain ⟨rfl,hn1⟩:=hn
  cases qir ho with
  | calm hsl hnx hhp hnone hall=>omega
  | new mk b hp1 hk hv h1 hmem hhp hnone hall=>
    subst h1
    simp only [List.cons.injEq,Prod.mk.injEq,true_and] at hh
    obtain ⟨rfl,rfl⟩:=hh
    refine ⟨by rw [Y8];exact Nat.le_succ _,fun t h=>by rw [Ym,if_neg h];rfl,fun m hm=>by rw [Y7];exact hhp m hm,fun m hm h=>by rw [Y7];exact hnone m h,fun m h1 h2=>?_,fun st2 hn ha hfr=>?_⟩
    · rw [Y8] at h2
      have : m = st.nx:=by simp only at h2;omega
      subst this;exact hmem
    · rw [Y8] at hn hfr ⊢
      simp only at hn hfr
      obtain ⟨hp3,k1,k2,k3,k4⟩:=hall st2 (fun x hx=>ha.ev hx) ha.blk
      have hfree:=hfr st.nx (Nat.le_refl _) q6
      have hkeep : ∀ m,find st2.hp m = none→find hp3 m = none:=fun m hm=>by
        by_cases hw : m∈(fp st o.op).2
        · rw [k2 m hw]
          refine hnone m ?_
          rw [← ha.blk.1 m hw];exact hm
        · rw [k3 m hw];exact hm
      refine ⟨(⟨st2.sl,hp3,st2.nx⟩ : AS).putD o.dst (.d (.sl es xs)),Y8 _ _ _,fun base=>?_,fun t h=>by rw [Ym,if_neg h];rfl,fun t h=>by rw [Ym,Ym,if_pos h,if_pos h],fun m hm=>by rw [Y7,Y7];exact k2 m hm,fun m hm=>by rw [Y7];exact k3 m hm⟩
      intro ro Q w Z inj a Ds K h hd hlo hb hro hres hK
      refine qhg (base:=base) hT (ha.guard.trans hg) hk k1 q6 hfree k4 hkeep ro Q w Z inj a Ds K h hd hlo hb hro hres fun a' w' hp=>hK a' w' ?_
      rw [← hv] at hp
      exact qrm (st1:=⟨st2.sl,(st.nx,.dat es xs)::hp3,st2.nx⟩) hb hp rfl (hkeep _ hfree) hlo
theorem qys {hp hp2 : List (Nat × Blk)} (h : ∀ m,find hp2 m = find hp m) : ∀ k,toD hp2 k = toD hp k:=by
  intro k
  induction k with
  | zero=>funext v;cases v <;> rfl
  | succ k ih=>funext v;cases v <;> simp only [toD,ih,h]
theorem qfc {hp hp2 : List (Nat × Blk)} (h : ∀ m,find hp2 m = find hp m) : ∀ {vs : List V},Ke hp2 vs = Ke hp vs
  | []=>rfl
  | v::r=>by simp only [Ke,qys h,qfc h]
theorem qfd {hp hp2 : List (Nat × Blk)} : ∀ {vs : List V},vs.all V.isD = true→Ke hp2 vs = Ke hp vs
  | [],_=>rfl
  | v::r,h=>by
    simp only [List.all_cons,Bool.and_eq_true] at h
    have e : toD hp2 8 v = toD hp 8 v:=by
      cases v <;> first | rfl | (simp [V.isD] at h;done)
    rw [Ke,Ke,e,qfd (hp:=hp) (hp2:=hp2) h.2]
theorem qy6 {c : Call} {f : FuncId} {vs : List V} {ds : List DV} {v : V} {hp' : List (Nat × Blk)} {nx' : Nat} {r' r : DV} (hg : Qi ops st o = some true) (ho : o.op = .call c) (hc : callee st c = some (f,vs))
    (hfz : Ke st.hp vs = some ds) (hgood : Zy P f (ds.map .d) [] 0 v hp' nx') (hto : toD hp' 8 v = some r') (hle : DLe r' r) (hs : vs.all V.isD = true∨r.scalar = true) : J2 P ops o (fpC vs) st (st.putD o.dst (.d r)):=by
  refine qkx (by unfold fpC;cases vs.all V.isD <;> rfl) fun st2 ha=>qhi (ha.guard.trans hg) ho ((ha.callee ho).trans hc) ?_ hgood hto hle hs
  rw [← hfz]
  by_cases hd : vs.all V.isD = true
  · exact qfd hd
  · have h:=ha.blk.2
    simp only [fpC,hd,cond_false] at h
    exact qfc h
theorem qoi {ops : Array Oper} {o : Oper} {c : Call} {f : FuncId} {vs vs' : List V} {hp0 hp' hpR hpN : List (Nat × Blk)} {k k' nxN : Nat} {v' vN : V} {ρ ρ3 : Nat→Nat} {fz3 ph3 : List Nat} (hg : Qi ops st o = some true) (ho : o.op = .call c) (hc : callee st c = some (f,vs)) (hlen : vs.length = vs'.length)
    (hw1 : Wk 0 ρ [] [] {sl:=Ks 0 vs,hp:=st.hp,nx:=st.nx} {sl:=Ks 0 vs',hp:=hp0,nx:=k}) (hgood : Zy P f vs' hp0 k v' hp' k') (hw3 : Wk 0 ρ3 fz3 ph3 {sl:=[(0,v')],hp:=hp',nx:=k'} {sl:=[(0,vN)],hp:=hpR,nx:=nxN})
    (hb : Back ρ ρ3 ph3 k k' st.nx nxN st.hp hpR hpN) : J0 P base ops o st ({sl:=st.sl,hp:=hpN,nx:=nxN : AS}.putD o.dst vN):=by
  intro ro Q w Z inj a Ds K h hd hbase _ hK
  unfold Jp
  rw [q2o h hg]
  simp only [if_true]
  refine ⟨fun _ _=>trivial,?_⟩
  obtain ⟨xs,hr,hl⟩:=qch h ho hc hgood.1
  rw [show (Fw ro).round = ro from rfl,Oper.semAt_eq ro _ o (by rintro c' h';rw [ho] at h';cases h'),hr,Oper.uponIn_enter]
  refine ⟨fun h=>by simp [Fw] at h,?_⟩
  have hrel0 : RelS w Z inj {sl:=Ks 0 vs,hp:=st.hp,nx:=st.nx} {a with tmps:=xs,defers:=[]} []:=by
    refine ⟨fun t v ht=>?_,h.heap,rfl,List.nodup_nil,qd⟩
    rw [qa2] at ht
    simp only [Nat.zero_le,if_true,Nat.sub_zero] at ht
    obtain ⟨y,hy⟩:=Kp (xs:=xs) (i:=t) (by rw [← hl.1];exact K4 ht)
    exact ⟨y,hy,hl.2 t v y ht hy⟩
  obtain ⟨hr1,he1⟩:=q16 hrel0 hw1
  have hl1 : LRel w (wkZ Z inj {sl:=Ks 0 vs,hp:=st.hp,nx:=st.nx} []) (wkI inj ρ []) k vs' xs:=by
    refine ⟨by rw [← hlen];exact hl.1,fun i d y hdi hyi=>?_⟩
    obtain ⟨y',hy',hr⟩:=hr1.slots i d (by rw [qa2];simpa using hdi)
    rw [hyi] at hy';cases hy'
    exact hr
  refine CallsIn.mono (hgood.2 w _ _ xs hr1.heap hl1) ?_
  rintro e w' ⟨x,Z',inj',rfl,hh,he2,hv,hn⟩
  obtain ⟨inj2,hinj2⟩ : ∃ inj2 : Inj,inj2 = fun n=>if n < k' then inj' n else none:=⟨_,rfl⟩
  have hag : ∀ n,n < k'→inj2 n = inj' n:=fun n hn=>by rw [hinj2];simp [hn]
  have hh2 : RelH w' Z' inj2 hp' k':=by
    refine ⟨fun n b hb=>?_,fun n m b c p q h1 h2 h3 h4 h5 h6=>?_,fun n b p h1 h2 h3=>?_,hh.zs,hh.zc⟩
    · obtain ⟨k1,k2⟩:=hh.blk n b hb
      exact ⟨k1,qjn k2 (fun m p hm hp=>(hag m hm).trans hp) k1 (fun hp=>(hag n k1).trans hp)⟩
    · rw [hag n (hh.blk n b h1).1] at h5;rw [hag m (hh.blk m c h2).1] at h6
      exact hh.sep n m b c p q h1 h2 h3 h4 h5 h6
    · rw [hag n (hh.blk n b h1).1] at h3
      exact hh.out n b p h1 h2 h3
  have hv2 : RelV w' Z' inj2 k' v' x:=q86 hv fun n p hn hp=>(hag n hn).trans hp
  have him : ∀ b,im hp' inj2 b→im hp' inj' b:=by
    rintro b ⟨n,blk,o,h1,h2,h3⟩
    exact ⟨n,blk,o,h1,h2,by rw [← hag n (hh.blk n blk h1).1];exact h3⟩
  have hrel3 : RelS w' Z' inj2 {sl:=[(0,v')],hp:=hp',nx:=k'} {a with tmps:=#[x],defers:=[]} []:=by
    refine ⟨fun t v ht=>?_,hh2,rfl,List.nodup_nil,qd⟩
    rw [Kh] at ht
    split at ht
    · rename_i e;subst e;cases ht;exact ⟨x,rfl,hv2⟩
    · simp [find] at ht
  obtain ⟨hr3,he3⟩:=q16 hrel3 hw3
  generalize hZ3 : wkZ Z' inj2 {sl:=[(0,v')],hp:=hp',nx:=k'} fz3 = Z3 at hr3 he3
  generalize hJ3 : wkI inj2 ρ3 ph3 = inj3 at hr3 he3
  have hvN : RelV w' Z3 inj3 nxN vN x:=by
    obtain ⟨y,hy,hr⟩:=hr3.slots 0 vN (by simp [find])
    simp at hy;subst hy;exact hr
  have hpin : ∀ i,i < k→inj' i = inj (ρ i):=fun i hi=>by rw [he2.pinj i hi];simp [wkI]
  have hlow : ∀ m,m < st.nx→∀ p,inj3 m = some p→inj m = some p:=by
    intro m hm p hp
    have hnp : m ∉ ph3:=fun hc=>by have:=hb.phn m hc;omega
    rw [← hJ3] at hp
    simp only [wkI,hnp,if_false] at hp
    rcases hb.snd m hm with ⟨h1,h2⟩ | h1
    · rw [hinj2] at hp
      simp only [show ρ3 m < k' by omega,if_true] at hp
      rw [hpin _ h1,h2] at hp;exact hp
    · rw [hinj2] at hp;simp [show ¬ ρ3 m < k' by omega] at hp
  obtain ⟨injN,hinjN⟩ : ∃ injN : Inj,injN = fun m=>if m < st.nx then inj m else inj3 m:=⟨_,rfl⟩
  have hN1 : ∀ m,m < st.nx→injN m = inj m:=fun m hm=>by rw [hinjN];simp [hm]
  have hN2 : ∀ m p,inj3 m = some p→injN m = some p:=fun m p hp=>by
    by_cases hm : m < st.nx
    · rw [hN1 m hm];exact hlow m hm p hp
    · rw [hinjN];simp [hm,hp]
  have hR : ∀ m b,find hpR m = some b→∀ p,injN m = some p→inj3 m = some p:=by
    intro m b hmb p hp
    by_cases hm : m < st.nx
    · rw [hN1 m hm] at hp
      have hnp : m ∉ ph3:=fun hc=>by have:=hb.phn m hc;omega
      obtain ⟨_,h2⟩:=hw3.blocks m b hmb
      rcases h2 with ⟨h2,_⟩ | ⟨_,b0,h3,_⟩
      · exact absurd h2 hnp
      · have hlt:=(hh.blk _ _ h3).1
        rcases hb.snd m hm with ⟨k1,k2⟩ | k1
        · rw [← hJ3]
          simp only [wkI,hnp,if_false]
          rw [hag _ q6,hpin _ k1,k2];exact hp
        · omega
    · rw [hinjN] at hp;simpa [hm] using hp
  have hE : Ext w (wkZ Z inj {sl:=Ks 0 vs,hp:=st.hp,nx:=st.nx} []) (wkI inj ρ []) hp0 w' Z' inj' hp' 0:=he2.pin_le (Nat.zero_le _)
  have imR : ∀ b,im hpR inj3 b→im st.hp inj b∨w.heap.size≤b:=by
    intro b hb'
    rcases he3.imm b hb' with h1 | h1
    · rcases hE.imm b (him b h1) with h2 | h2
      · exact he1.imm b h2
      · exact .inr h2
    · exact .inr (Nat.le_trans hE.size h1)
  have keep : ∀ b,b < w.heap.size→¬ im hp0 (wkI inj ρ []) b→w'.heap[b]? = w.heap[b]?:=fun b hb1 hb2=>hE.keep b hb1 hb2
  have hfar : ∀ m b p,find st.hp m = some b→live b = true→inj m = some p→(∀ i,i < k→ρ i≠m)→¬ im hp0 (wkI inj ρ []) p.1:=by
    rintro m b p h1 h2 h3 h4 ⟨i,blk,o,g1,g2,g3⟩
    obtain ⟨j1,j2⟩:=hw1.blocks i blk g1
    rcases j2 with ⟨j2,_⟩ | ⟨_,b0,j3,j4⟩
    · cases j2
    · have g3' : inj (ρ i) = some (p.1,o):=by simpa [wkI] using g3
      exact h.heap.sep (ρ i) m b0 b _ p j3 h1 (qlf j4 g2) h2 g3' h3 (h4 i j1) rfl
  have hZ : ∀ b,Z b→Z3 b:=fun b hz=>he3.zin b (hE.zin b (he1.zin b hz))
  have hZo : ∀ b,Z3 b→Z b∨im hp0 (wkI inj ρ []) b∨w.heap.size≤b:=by
    intro b hz
    rcases he3.zout b hz with h1 | h1 | h1
    · rcases hE.zout b h1 with h2 | h2 | h2
      · rcases he1.zout b h2 with h3 | h3 | h3
        · exact .inl h3
        · rcases h2 with h2 | ⟨n,hn,_⟩
          · exact .inl h2
          · cases hn
        · exact .inr (.inr h3)
      · exact .inr (.inl h2)
      · exact .inr (.inr h2)
    · rcases hE.imm b (him b h1) with h2 | h2
      · exact .inr (.inl h2)
      · exact .inr (.inr h2)
    · exact .inr (.inr (Nat.le_trans hE.size h1))
  have hbig : Zb w w':=hE.big
  have hloops : q9v w w':=hE.loops
  have hExt : Ext w Z inj st.hp w' Z3 injN hpN st.nx:=by
    refine ⟨hE.size,fun b h1 h2=>keep b h1 (fun h3=>(he1.imm b h3).elim h2 (fun h4=>q6)),?_,hbig,hloops,hZ,?_,hN1,hE.tape,hE.os,hE.output,hE.frz⟩
    · rintro b ⟨m,blk,o,g1,g2,g3⟩
      rcases hb.old m blk g1 with g4 | ⟨g4,_⟩
      · exact imR b ⟨m,blk,o,g4,g2,hR m blk g4 _ g3⟩
      · exact .inl ⟨m,blk,o,g4,g2,by rw [← hN1 m (h.heap.blk m blk g4).1];exact g3⟩
    · intro b hz
      rcases hZo b hz with h1 | h1 | h1
      · exact .inl h1
      · exact .inr ((he1.imm b h1).imp (fun x=>x) (fun x=>x))
      · exact .inr (.inr h1)
  have hH : RelH w' Z3 injN hpN nxN:=by
    refine ⟨fun m b hmb=>?_,fun m n b c p q h1 h2 h3 h4 h5 h6 hne=>?_,fun m b p h1 h2 h3 hz=>?_,hr3.heap.zs,hr3.heap.zc⟩
    · rcases hb.old m b hmb with g | ⟨g,gi⟩
      · obtain ⟨k1,k2⟩:=hr3.heap.blk m b g
        refine ⟨k1,qjn k2 (fun n p _ hp=>hN2 n p hp) k1 fun hp=>?_⟩
        cases hq : injN m with
        | none=>rfl
        | some p=>rw [hR m b g p hq] at hp;cases hp
      · obtain ⟨k1,k2⟩:=h.heap.blk m b g
        refine ⟨Nat.lt_of_lt_of_le k1 hb.nxs,k2.mono (fun b' hz=>?_) hZ hbig (fun n hn=>hN1 n hn) hb.nxs k1 fun p hp hlv=>?_⟩
        · refine keep b' (h.heap.zs b' hz) fun hi=>?_
          rcases he1.imm b' hi with h1 | h1
          · exact h.heap.z_im hz h1
          · have:=h.heap.zs b' hz;omega
        · exact keep _ (h.heap.im_lt ⟨m,b,p.2,g,hlv,hp⟩) (hfar m b p g hlv hp gi)
    · have cross : ∀ (m n : Nat) (b c : Blk) (p q : Nat × Nat),find hpR m = some b→live b = true→injN m = some p→find st.hp n = some c→live c = true→injN n = some q→(∀ i,i < k→ρ i≠n)→p.1≠q.1:=by
        intro m n b c p q h1 h3 h5 h2 h4 h6 hn e
        have hq : inj n = some q:=by rw [← hN1 n (h.heap.blk n c h2).1];exact h6
        have hlt:=h.heap.im_lt (b:=q.1) ⟨n,c,q.2,h2,h4,hq⟩
        rcases he3.imm p.1 ⟨m,b,p.2,h1,h3,hR m b h1 p h5⟩ with g1 | g1
        · rcases hE.imm p.1 (him _ g1) with g2 | g2
          · exact hfar n c q h2 h4 hq hn (e ▸ g2)
          · omega
        · have:=hE.size;omega
      rcases hb.old m b h1 with g | ⟨g,gi⟩ <;> rcases hb.old n c h2 with g' | ⟨g',gi'⟩
      · exact hr3.heap.sep m n b c p q g g' h3 h4 (hR m b g p h5) (hR n c g' q h6) hne
      · exact cross m n b c p q g h3 h5 g' h4 h6 gi'
      · exact fun e=>cross n m c b q p g' h4 h6 g h3 h5 gi e.symm
      · exact h.heap.sep m n b c p q g g' h3 h4 (by rw [← hN1 m (h.heap.blk m b g).1];exact h5) (by rw [← hN1 n (h.heap.blk n c g').1];exact h6) hne
    · rcases hb.old m b h1 with g | ⟨g,gi⟩
      · exact hr3.heap.out m b p g h2 (hR m b g p h3) hz
      · have hq : inj m = some p:=by rw [← hN1 m (h.heap.blk m b g).1];exact h3
        rcases hZo p.1 hz with h4 | h4 | h4
        · exact h.heap.out m b p g h2 hq h4
        · exact hfar m b p g h2 hq gi h4
        · have:=h.heap.im_lt (b:=p.1) ⟨m,b,p.2,g,h2,hq⟩;omega
  exact hK _ _ (q2r h hbase hExt hH hb.nxs (q86 hvN fun n p _ hp=>hN2 n p hp) hd)
theorem qya {c : Call} {f : FuncId} {vs : List V} {v : V} {hp' : List (Nat × Blk)} {nx' : Nat} (hg : Qi ops st o = some true) (ho : o.op = .call c) (hc : callee st c = some (f,vs)) (hgood : Zy P f vs st.hp st.nx v hp' nx') :
    J0 P base ops o st ({sl:=st.sl,hp:=hp',nx:=nx' : AS}.putD o.dst v):=qoj hg ho hc hgood
inductive Yw (P : Program) (base : Nat) (ops : Array Oper) : List Oper→AS→AS→Prop
  | nil {st : AS} : Yw P base ops [] st st
  | cons {o : Oper} {l : List Oper} {st st1 st2 : AS} : J0 P base ops o st st1→Yw P base ops l st1 st2→Yw P base ops (o::l) st st2
  | wk {ρ : Nat→Nat} {fz ph : List Nat} {l : List Oper} {st st1 st2 : AS} : Wk base ρ fz ph st st1→Yw P base ops l st1 st2→Yw P base ops l st st2
inductive Zz (P : Program) (base : Nat) (ops : Array Oper) (F : List Fp) : List Oper→AS→AS→Prop
  | nil {st : AS} : Zz P base ops F [] st st
  | cons {o : Oper} {l : List Oper} {st st1 st2 : AS} : J2 P ops o (fpAt F l.length) st st1→Zz P base ops F l st1 st2→Zz P base ops F (o::l) st st2
  | piv {o : Oper} {l : List Oper} {st st1 st2 : AS} : Jl (fpAt F l.length) = true→Yw P base ops [o] st st1→Zz P base ops F l st1 st2→Zz P base ops F (o::l) st st2
def Ud (P : Program) (base : Nat) (ops : Array Oper) (dr : Dr) (l : List Oper) (st st' : AS) : Prop:=match dr with
  | none=>Yw P base ops l st st'
  | some F=>Zz P base ops F l st st'
theorem qfw {F : List Fp} : ∀ {l : List Oper} {st st' : AS},Zz P base ops F l st st'→∃ (n : Nat) (S : Nat→AS),n≤l.length∧S 0 = st∧(∀ i o,i < n→l[i]? = some o→J2 P ops o (fpAt F (l.length - (i + 1))) (S i) (S (i + 1)))∧
    ((n = l.length∧S n = st')∨∃ o st1,l[n]? = some o∧Jl (fpAt F (l.length - (n + 1))) = true∧Yw P base ops [o] (S n) st1∧Zz P base ops F (l.drop (n + 1)) st1 st')
  | [],st,st',h=>by cases h;exact ⟨0,fun _=>st,Nat.le_refl _,rfl,fun i o h=>q6,.inl ⟨rfl,rfl⟩⟩
  | o::l,st,st',h=>by
    cases h with
    | @cons _ _ _ st1 _ h1 h2=>
      obtain ⟨n,S,hn,e0,hs,hend⟩:=qfw h2
      refine ⟨n + 1,fun i=>match i with | 0=>st | i + 1=>S i,by simp;omega,rfl,fun i o' hi ho=>?_,?_⟩
      · cases i with
        | zero=>simp at ho;subst ho;simp only [e0,List.length_cons,Nat.zero_add,Nat.add_sub_cancel];exact h1
        | succ i=>
          have:=hs i o' q6 (by simpa using ho)
          simp only [List.length_cons]
          rw [show l.length + 1 - (i + 1 + 1) = l.length - (i + 1) by omega]
          exact this
      · rcases hend with ⟨h3,h4⟩ | ⟨o',s1,h3,h4,h5,h6⟩
        · exact .inl ⟨by simp [h3],h4⟩
        · refine .inr ⟨o',s1,by simpa using h3,?_,h5,by simpa using h6⟩
          rw [List.length_cons,show l.length + 1 - (n + 1 + 1) = l.length - (n + 1) by omega]
          exact h4
    | @piv _ _ _ st1 _ h1 h2 h3=>exact ⟨0,fun _=>st,Nat.zero_le _,rfl,fun i o h=>q6,.inr ⟨o,st1,rfl,by simpa using h1,h2,by simpa using h3⟩⟩
theorem qmj {dr : Dr} {l : List Oper} {st2 : AS} (hg : Qi ops st o = some false) (h : Ud P base ops dr l (st.putD o.dst (.d (.tup []))) st2) : Ud P base ops dr (o::l) st st2:=by
  cases dr with
  | none=>exact .cons (qhj hg) h
  | some F=>exact .cons ((qy9 hg).mono (qh5 _)) h
theorem qmh {dr : Dr} {l : List Oper} {st2 : AS} {v : V} (hT : Yj P T) (hg : Qi ops st o = some true) (ho : opFn T st o.op = some (v,st1)) (hf : okO dr l.length st o.op st1 = true) (h : Ud P base ops dr l (st1.putD o.dst v) st2) : Ud P base ops dr (o::l) st st2:=by
  cases dr with
  | none=>exact .cons (qd8 hT hg ho) h
  | some F=>
    simp only [okO,Bool.and_eq_true] at hf
    exact .cons ((qy7 hT hg ho hf.2).mono hf.1) h
theorem qmi {dr : Dr} {l : List Oper} {st2 : AS} {n es : Nat} {xs : List (List DV)} {hp2 : List (Nat × Blk)} (hT : Yj P T) (hg : Qi ops st o = some true) (ho : opFn T st o.op = some (.hs n es 0 xs.length,st1)) (hn : n = st.nx∧st1.nx = n + 1) (hh : st1.hp = (n,.dat es xs)::hp2) (hf : find hp2 n = none) (hF : okF dr l.length (fp st o.op) = true)
    (h : Ud P base ops dr l (({sl:=st1.sl,hp:=hp2,nx:=st1.nx} : AS).putD o.dst (.d (.sl es xs))) st2) : Ud P base ops dr (o::l) st st2:=by
  cases dr with
  | none=>exact .cons (qok hT hg ho (Nat.le_of_eq hn.1.symm) hh hf) h
  | some F=>exact .cons ((qy8 hT hg ho hn hh hf).mono hF) h
theorem qmg {dr : Dr} {l : List Oper} {st2 : AS} {c : Call} {f : FuncId} {vs : List V} {ds : List DV} {v : V} {hp' : List (Nat × Blk)} {nx' : Nat} {r' r : DV} (hg : Qi ops st o = some true) (ho : o.op = .call c) (hc : callee st c = some (f,vs))
    (hfz : Ke st.hp vs = some ds) (hgood : Zy P f (ds.map .d) [] 0 v hp' nx') (hto : toD hp' 8 v = some r') (hle : DLe r' r) (hs : vs.all V.isD = true∨r.scalar = true) (hF : okF dr l.length (fpC vs) = true) (h : Ud P base ops dr l (st.putD o.dst (.d r)) st2) : Ud P base ops dr (o::l) st st2:=by
  cases dr with
  | none=>exact .cons (qhi hg ho hc hfz hgood hto hle hs) h
  | some F=>exact .cons ((qy6 hg ho hc hfz hgood hto hle hs).mono hF) h
def Adm (ops : Array Oper) (S : Nat→Prop) : Prop:=∀ j o,S j→ops[j]? = some o→∀ e∈o.after,Region.binds .any e = true→S e.on
def Behind (ops : Array Oper) (o : Oper) (j : Nat) : Prop:=∀ S : Nat→Prop,Adm ops S→(∀ e∈o.after,Region.binds .any e = true→S e.on)→S j
theorem qi9 (acc : List Nat) (j : Nat) : ∀ (l : List Edge) (s : Nat),(l.foldl (fun s e=>if Region.binds .any e then s ||| 2 ^ e.on ||| acc.getD e.on 0 else s) s).testBit j = true→
    s.testBit j = true∨∃ e∈l,Region.binds .any e = true∧(e.on = j∨(acc.getD e.on 0).testBit j = true)
  | [],s,h=>.inl h
  | e::l,s,h=>by
    simp only [List.foldl_cons] at h
    rcases qi9 acc j l _ h with h | ⟨e',h1,h2,h3⟩
    · by_cases hb : Region.binds .any e = true
      · simp only [hb,if_true,Nat.testBit_or,Bool.or_eq_true,Nat.testBit_two_pow] at h
        rcases h with (h | h) | h
        · exact .inl h
        · exact .inr ⟨e,qd,hb,.inl (by simpa using h)⟩
        · exact .inr ⟨e,qd,hb,.inr h⟩
      · simp only [hb] at h;exact .inl (by simpa using h)
    · exact .inr ⟨e',List.mem_cons_of_mem _ h1,h2,h3⟩
theorem qia : ∀ (r : List Oper) (pre : List Oper) (acc : List Nat),ops.toList = pre ++ r→acc.length = pre.length→
    (∀ (i m : Nat),acc[i]? = some m→∃ o,ops[i]? = some o∧∀ j,m.testBit j = true→Behind ops o j)→
    (masks acc r).length = ops.size∧∀ (i m : Nat),(masks acc r)[i]? = some m→∃ o,ops[i]? = some o∧∀ j,m.testBit j = true→Behind ops o j
  | [],pre,acc,h,hl,ha=>by
    refine ⟨?_,ha⟩
    have:=congrArg List.length h
    simp at this
    simp [masks,hl,this]
  | o::r,pre,acc,h,hl,ha=>by
    refine qia r (pre ++ [o]) (acc ++ [qi8 acc o]) (by rw [h];simp) (by simp [hl]) ?_
    intro i m hm
    by_cases hi : i < acc.length
    · rw [List.getElem?_append_left hi] at hm;exact ha i m hm
    · rw [List.getElem?_append_right q6] at hm
      have hi' : i = acc.length:=by
        have:=K4 hm
        simp at this;omega
      subst hi'
      simp at hm;subst hm
      refine ⟨o,by rw [← Array.getElem?_toList,h,hl];simp,fun j hj S hS he=>?_⟩
      rcases qi9 acc j _ _ hj with h0 | ⟨e,h1,h2,h3⟩
      · simp at h0
      · have hse:=he e (by simpa using h1) h2
        rcases h3 with h3 | h3
        · exact h3 ▸ hse
        · rw [List.getD_eq_getElem?_getD] at h3
          cases hc : acc[e.on]? with
          | none=>rw [hc] at h3;simp at h3
          | some m'=>
            rw [hc] at h3
            obtain ⟨o',ho',hb⟩:=ha _ _ hc
            exact hb j h3 S hS (fun e' he' hb'=>hS _ _ hse ho' e' he' hb')
theorem qgj : ∀ (l : List Oper) (n : Nat),qaa n l = true→∀ i o,l[i]? = some o→∀ e∈o.after,Region.binds .any e = true→e.on < n + i
  | [],_,_,i,o,h=>by simp at h
  | x::l,n,h,i,o,ho=>by
    simp only [qaa,Bool.and_eq_true,List.all_eq_true] at h
    cases i with
    | zero=>
      simp at ho;subst ho
      intro e he hb
      have:=h.1 e (by simpa using he)
      simp [hb] at this
      exact this
    | succ i=>
      intro e he hb
      have:=qgj l (n + 1) h.2 i o (by simpa using ho) e he hb
      omega
structure q6s (x y : Fp) : Prop where
  ww : ∀ m∈x.2,m ∉ y.2
  rw : ∀ m∈y.2,match x.1 with | none=>False | some r=>m ∉ r
  wr : ∀ m∈x.2,match y.1 with | none=>False | some r=>m ∉ r
theorem qc8 {a b : List Nat} (h : q6u a b = true) : ∀ m∈a,m ∉ b:=fun m hm hb=>by
  simp only [q6u,List.all_eq_true] at h
  have:=h m hm
  rw [qic hb] at this;cases this
theorem qlr {x y : Fp} (h : qc7 x y = true) : q6s x y:=by
  simp only [qc7,Bool.and_eq_true] at h
  obtain ⟨⟨h1,h2⟩,h3⟩:=h
  refine ⟨qc8 h1,fun m hm=>?_,fun m hm=>?_⟩
  · revert h2
    cases x.1 with
    | none=>intro h2;rw [List.isEmpty_iff] at h2;rw [h2] at hm;cases hm
    | some r=>intro h2 hr;exact qc8 h2 m hr hm
  · revert h3
    cases y.1 with
    | none=>intro h3;rw [List.isEmpty_iff] at h3;rw [h3] at hm;cases hm
    | some r=>intro h3 hr;exact qc8 h3 m hr hm
structure q6t (F : List Fp) (ops : Array Oper) : Prop where
  edges : ∀ j o,ops[j]? = some o→∀ e∈o.after,Region.binds .any e = true→e.on < j
  pairs : ∀ i j a b,i < j→ops[i]? = some a→ops[j]? = some b→Behind ops b i∨(q6s (fpAt F (ops.size - (i + 1))) (fpAt F (ops.size - (j + 1)))∧(∀ t∈reads ops a,b.dst≠some t)∧(∀ t∈reads ops b,a.dst≠some t)∧∀ t,a.dst = some t→b.dst≠some t)
  pivs : ∀ i j a b,i < j→ops[i]? = some a→ops[j]? = some b→(Jl (fpAt F (ops.size - (i + 1))) = true∨Jl (fpAt F (ops.size - (j + 1))) = true)→Behind ops b i
theorem qll {α : Type} {l : List α} {i : Nat} {x : α} (h : l[i]? = some x) : (x,i)∈l.zipIdx:=by
  refine List.mem_of_getElem? (i:=i) ?_
  simp [h]
theorem qcw {o : Oper} {t : Tmp} : q75 o t = true↔o.dst = some t:=by
  unfold q75
  cases o.dst with
  | none=>simp
  | some d=>simp
theorem qnm {F : List Fp} (h : q74 F ops = true) : q6t F ops:=by
  simp only [q74,Bool.and_eq_true,List.all_eq_true] at h
  obtain ⟨h2,h5⟩:=h
  obtain ⟨ml,ms⟩:=qia (ops:=ops) ops.toList [] [] rfl rfl qd
  have toL : ∀ (i : Nat) (o : Oper),ops[i]? = some o→ops.toList[i]? = some o:=fun i o ho=>by rw [Array.getElem?_toList];exact ho
  have main : ∀ i j a b,i < j→ops[i]? = some a→ops[j]? = some b→Behind ops b i∨((Jl (fpAt F (ops.size - (i + 1))) = false∧Jl (fpAt F (ops.size - (j + 1))) = false)∧(q6s (fpAt F (ops.size - (i + 1))) (fpAt F (ops.size - (j + 1)))∧(∀ t∈reads ops a,b.dst≠some t)∧(∀ t∈reads ops b,a.dst≠some t)∧∀ t,a.dst = some t→b.dst≠some t)):=fun i j a b hij ha hb=>by
    have:=h5 _ (qll (toL j b hb)) _ (qll (toL i a ha))
    simp only [Bool.or_eq_true] at this
    rcases this with (h | h) | h
    · have hb' : Nat.blt i j = true:=by rw [Nat.blt_eq];exact hij
      simp only [hb'] at h;cases h
    · left
      obtain ⟨m,hm⟩:=Yt (xs:=masks [] ops.toList) (i:=j) (by rw [ml];exact Yg hb)
      obtain ⟨o',ho',hbm⟩:=ms j m hm
      rw [hb] at ho';cases ho'
      rw [List.getD_eq_getElem?_getD,hm] at h
      exact hbm i h
    · right
      simp only [Bool.and_eq_true,Bool.not_eq_true'] at h
      obtain ⟨⟨⟨hp1,hp2⟩,h⟩,hF⟩:=h
      simp only [qff,Bool.and_eq_true,List.all_eq_true,Bool.not_eq_true'] at h
      obtain ⟨⟨h4,h6⟩,h7⟩:=h
      refine ⟨⟨hp1,hp2⟩,qlr hF,fun t ht hd=>?_,fun t ht hd=>?_,fun t ht hd=>?_⟩
      · have:=h4 t ht;rw [qcw.2 hd] at this;cases this
      · have:=h6 t ht;rw [qcw.2 hd] at this;cases this
      · rw [ht] at h7;simp only at h7;rw [qcw.2 hd] at h7;simp at h7
  refine ⟨fun j o ho e he hb=>?_,fun i j a b hij ha hb=>(main i j a b hij ha hb).imp id And.right,fun i j a b hij ha hb hp=>?_⟩
  · have:=qgj _ 0 h2 j o (toL j o ho) e he hb
    omega
  · rcases main i j a b hij ha hb with h | ⟨⟨h1,h2⟩,_⟩
    · exact h
    · rcases hp with h | h
      · rw [h1] at h;cases h
      · rw [h2] at h;cases h
end
end Go.Am
