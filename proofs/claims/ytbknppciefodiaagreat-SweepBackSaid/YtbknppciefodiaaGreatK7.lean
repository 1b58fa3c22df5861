/- Lf3 Lf4 Lf5 Lf6 -/
import Derived.Test.YtbknppciefodiaaGreatK6
namespace Go.Am
open Go
theorem RunK.toEv {P : Program} {T : Tab} {base : Nat} {c : Code} {st : AS} {K : Ex→AS→Prop} (h : RunK P T base [c] st K) : ∃ ex st',Kz P T base c st ex st'∧K ex st':=q5a h
section
variable {P : Program} {T : Tab} {base : Nat} {ops : Array Oper} {l : List Oper} {sl : List (Nat × V)} {hp : List (Nat × Blk)} {nx : Nat} {K : AS→Prop} {ty : TypeId} {pos : String} {af : Array Edge} {dst : Option Tmp} {g : Option (Nat × Bool)}
theorem q3z {β : Type} {c : Call} {f : FuncId} {fn : Func} {k : Code} (j : List V) (E : β→Prop) (S : β→AS) (q : Qw ops ⟨sl,hp,nx⟩ ⟨dst,.call c,ty,pos,af,g⟩ = some true) (r : callee ⟨sl,hp,nx⟩ c = some (f,j))
    (y : P.funcs[f]? = some fn) (hb : fn.body = some k) (a : (fn.name == "runtime.NumGoroutine") = false) (d : codeOk fn.ntmps k = true) (u : Nat.ble j.length fn.ntmps = true)
    (h : RunK P T nx [k] ⟨Y8 0 j,hp,nx⟩ (fun ex st'=>(ex = .nor∨ex = .ret)∧∃ v,resV T st' fn.results.toList = some v∧∃ b,E b∧WkE base ((⟨sl,st'.hp,st'.nx⟩ : AS).putD dst v) (S b)))
    (t : ∀ b,E b→OpsK P T base ops none l (S b) K) : OpsK P T base ops none (⟨dst,.call c,ty,pos,af,g⟩::l) ⟨sl,hp,nx⟩ K:=by
  obtain ⟨ex,st',e,s,v,o,b,m,p⟩:=h.toEv
  obtain ⟨st2,x,n⟩:=t b m
  obtain ⟨ρ,fz,ph,w⟩:=p
  exact ⟨st2,.callS q rfl r (.mk y hb a d (by simpa using u) e s o) (.wk w x),n⟩
theorem q5w {β : Type} {c : Call} {gf : Operand} {n : Nat} {x : List V} {s : List (Nat × V)} {f : List Tmp} {assign body A B : Code} (E : β→Prop) (S : β→AS) (hA : assign = A) (hB : body = B) (hg : Qw ops ⟨sl,hp,nx⟩ ⟨dst,.call c,ty,pos,af,g⟩ = some true)
    (j : c.callee = .value gf) (r : AS.ev ⟨sl,hp,nx⟩ gf = some (.yld n)) (u : evL (AS.ev ⟨sl,hp,nx⟩) c.args.toList = some x) (hb : find hp n = some (.loop s f A B .ready none)) (hl : f.length = x.length)
    (h : RunK P T nx [assign] ⟨q1y s f x,hp,nx⟩ (fun ex st1=>ex = .nor∧∃ v,find st1.hp n = some (.loop v f A B .ready none)∧
      RunK P T nx [body] (st1.setBlk n (.loop v f A B .busy none)) (fun ex st2=>∃ p,find st2.hp n = some (.loop p f A B .busy none)∧match ex with
        | .nor=>∃ b,E b∧WkE base ((⟨sl,repl st2.hp n (.loop p f A B .ready none),st2.nx⟩ : AS).putD dst (.d (.bool true))) (S b)
        | ex=>OpsK P T base ops none l ((⟨sl,repl st2.hp n (.loop p f A B .done ex.code),st2.nx⟩ : AS).putD dst (.d (.bool false))) K)))
    (hr : ∀ b,E b→OpsK P T base ops none l (S b) K) : OpsK P T base ops none (⟨dst,.call c,ty,pos,af,g⟩::l) ⟨sl,hp,nx⟩ K:=by
  subst hA hB
  obtain ⟨aj,st1,e1,rfl,v,q,k⟩:=h.toEv
  obtain ⟨ex,st2,e2,p,t,y⟩:=k.toEv
  have key : ∀ a,Ko P T base ops none l ((⟨sl,repl st2.hp n (.loop p f assign body (if ex = .nor then .ready else .done) ex.code),st2.nx⟩ : AS).putD dst (.d (.bool (decide (ex = .nor))))) a→Ko P T base ops none (⟨dst,.call c,ty,pos,af,g⟩::l) ⟨sl,hp,nx⟩ a:=
    fun a h3=>.callY hg rfl j r u hb hl e1 q e2 t h3
  cases ex with
  | nor=>
    obtain ⟨b,z,ρ,fz,ph,w⟩:=y
    obtain ⟨a,o,m⟩:=hr b z
    exact ⟨a,key a (.wk w o),m⟩
  | exit i=>
    obtain ⟨a,o,m⟩:=y
    exact ⟨a,key a o,m⟩
  | ret=>
    obtain ⟨a,o,m⟩:=y
    exact ⟨a,key a o,m⟩
end
section
variable {P : Program} {T : Tab} {base : Nat} {cs : List Code} {sl : List (Nat × V)} {hp : List (Nat × Blk)} {nx : Nat} {K : Ex→AS→Prop}
def qe3 (P : Program) (T : Tab) (base : Nat) (cs : List Code) (K : Ex→AS→Prop) : Ex→AS→Prop:=qba (fun st'=>RunK P T base cs st' K) K
theorem q6q {k : Operand} {l : Array Tmp} {assign body : Code} {f : FuncId} {fn : Func} {m : Code} (a : List V)
    (p : AS.ev ⟨sl,hp,nx⟩ k = some (.fn f a)∨∃ ds,AS.ev ⟨sl,hp,nx⟩ k = some (.d (.fn f ds))∧a = ds.map .d)
    (w : P.funcs[f]? = some fn) (hb : fn.body = some m) (g : (fn.name == "runtime.NumGoroutine") = false) (j : codeOk fn.ntmps m = true) (u : Nat.ble (a.length + 1) fn.ntmps = true)
    (h : ∀ A B,assign = A→body = B→RunK P T (nx + 1) [m] ⟨Y8 0 (.yld nx::a),(nx,.loop sl l.toList A B .ready none)::hp,nx + 1⟩ (fun c b=>(c = .nor∨c = .ret)∧∃ v,resV T b fn.results.toList = some v∧
      ∃ (s : List (Nat × V)) (ls : LoopState) (ex : Ex),find b.hp nx = some (.loop s l.toList A B ls ex.code)∧ls≠.busy∧qe3 P T base cs K ex ⟨sl,repl b.hp nx .dead,b.nx⟩)) :
    RunK P T base (.rangeFunc k l assign body::cs) ⟨sl,hp,nx⟩ K:=by
  obtain ⟨c,b,e,r,v,o,s,ls,ex,q,t,n⟩:=(h assign body rfl rfl).toEv
  exact ⟨ex,_,.rangeF (pe:=ex.code) p (.mk w hb g j (by simpa using u) e r o) q t rfl,n⟩
theorem q56 {st : AS} (h : RunK P T base cs st K) : qe3 P T base cs K .nor st:=h
theorem qbl {st : AS} (h : K .ret st) : qe3 P T base cs K .ret st:=h
end
inductive WvS (st : AS) (ρ : Nat→Nat) (fz ph : List Nat) (nx : Nat) : List (Nat × V)→List (Nat × V)→Prop
  | nil {s : List (Nat × V)} : WvS st ρ fz ph nx s []
  | cons {s s' : List (Nat × V)} {t : Nat} {v v' : V} : find s t = some v→Wv st ρ fz ph nx v v'→WvS st ρ fz ph nx s s'→WvS st ρ fz ph nx s ((t,v')::s')
theorem q13s {st : AS} {ρ : Nat→Nat} {fz ph : List Nat} {nx : Nat} {s b : List (Nat × V)} {f : List Tmp} {as c : Code} {d : LoopState} {pe : Option Code} (h : WvS st ρ fz ph nx s b) : Wb st ρ fz ph nx (.loop s f as c d pe) (.loop b f as c d pe):=by
  refine .loop fun t g a=>?_
  induction h with
  | nil=>simp [find] at a
  | @cons b t' v v'' h1 h2 _ ih=>
    simp only [find] at a
    cases hb : Nat.beq t' t with
    | true=>rw [hb] at a;cases a;obtain rfl:=Nat.eq_of_beq_eq_true hb;exact ⟨v,h1,h2⟩
    | false=>rw [hb] at a;exact ih a
theorem qo4 {α : Type} {enc : α→List DV} {es : Nat} (a : ∀ x,(enc x).length = es) {xs : List α} {k : Nat} {v : α} (h : xs[k]? = some v) : sub (xs.flatMap enc) (k * es) es = some (enc v):=by
  induction xs generalizing k with
  | nil=>simp at h
  | cons x xs ih=>
    cases k with
    | zero=>
      simp at h;subst h
      have:=a x
      simp [sub,List.flatMap_cons,this]
    | succ k=>
      have d : xs[k]? = some v:=by simpa using h
      have:=ih d
      unfold sub at this ⊢
      have b:=a x
      have c : (k + 1) * es = (enc x).length + k * es:=by rw [Nat.succ_mul,b];omega
      rw [List.flatMap_cons,c]
      split at this
      · rename_i f
        rw [qq (by rw [List.length_append];omega),← List.drop_drop,List.drop_left]
        exact this
      · cases this
theorem q12a {α : Type} {enc : α→List DV} {es : Nat} (a : ∀ x,(enc x).length = es) {xs : List α} {k : Nat} {v : α} (h : k < xs.length) : splice (xs.flatMap enc) (k * es) (enc v) = (xs.set k v).flatMap enc:=by
  induction xs generalizing k with
  | nil=>simp at h
  | cons x xs ih=>
    have b:=a x
    have d:=a v
    cases k with
    | zero=>
      simp only [splice,Nat.zero_mul,List.take_zero,List.nil_append,Nat.zero_add,List.flatMap_cons,List.set_cons_zero]
      rw [d,← b,List.drop_left]
    | succ k=>
      have:=ih (k:=k) (by simpa using h)
      simp only [splice] at this ⊢
      have c : (k + 1) * es = (enc x).length + k * es:=by rw [Nat.succ_mul,b];omega
      rw [List.flatMap_cons,List.set_cons_succ,List.flatMap_cons,c,← this]
      rw [List.take_length_add_append,show (enc x).length + k * es + (enc v).length = (enc x).length + (k * es + (enc v).length) by omega,← List.drop_drop,List.drop_left]
      simp [List.append_assoc]
theorem qrs {α : Type} {enc : α→List DV} {es : Nat} (a : ∀ x,(enc x).length = es) (xs : List α) : (xs.flatMap enc).length = xs.length * es:=by
  induction xs with
  | nil=>simp
  | cons x xs ih=>rw [List.flatMap_cons,List.length_append,a,ih,List.length_cons,Nat.succ_mul];omega
def idxA {α : Type} (n : Nat) (xs : List α) (i : Int) : Option α:=if 0≤i∧i < n then xs[i.toNat]? else none
def andI (k : IntKind) (x y : Int) : Int:=k.wrap (BitVec.ofInt k.bits x &&& BitVec.ofInt k.bits y).toNat
def xorI (k : IntKind) (x y : Int) : Int:=k.wrap (BitVec.ofInt k.bits x ^^^ BitVec.ofInt k.bits y).toNat
section
variable {P : Program} {T : Tab} {base : Nat} {ops : Array Oper} {dr : Dr} {l : List Oper} {sl : List (Nat × V)} {hp : List (Nat × Blk)} {nx : Nat} {K : AS→Prop} {ty : TypeId} {pos : String} {af : Array Edge} {t : Tmp} {g : Option (Nat × Bool)}
theorem q12k {α β : Type} (f : α→β) (cs : List α) (j n : Nat) : sub (cs.map f) j n = (sub cs j n).map (·.map f):=by
  unfold sub
  simp only [List.length_map]
  split
  · simp [List.map_take,List.map_drop]
  · rfl
theorem qc7 {α : Type} {n : Nat} {xs : List α} {i : Int} {v : α} (h : idxA n xs i = some v) : 0≤i∧i < n∧xs[i.toNat]? = some v:=by
  unfold idxA at h
  split at h
  · rename_i a;exact ⟨a.1,a.2,h⟩
  · cases h
theorem qu1 {α : Type} {x y : Operand} {b : TypeId} {i : TI} {k : IntKind} {n : Int} {enc : α→List DV} {v : α} (xs : List α) (w : V) (c : idxA i.len xs n = some v) (a : ∀ x,(enc x).length = i.esize) (j : Qw ops ⟨sl,hp,nx⟩ ⟨some t,.index b x y,ty,pos,af,g⟩ = some true) (u : T b = some i)
    (p : AS.ev ⟨sl,hp,nx⟩ x = some (.d (.agg (xs.flatMap enc)))) (q : AS.ev ⟨sl,hp,nx⟩ y = some (.d (.int k n))) (r : i.kind = .array) (f : pack i.eagg ((enc v).map .d) = some w)
    (h : OpsK P T base ops dr l ⟨(t,w)::sl,hp,nx⟩ K) : OpsK P T base ops dr (⟨some t,.index b x y,ty,pos,af,g⟩::l) ⟨sl,hp,nx⟩ K:=by
  obtain ⟨m,o,s⟩:=qc7 c
  refine Yf j (v:=w) (st1:=⟨sl,hp,nx⟩) ?_ h (J6 rfl)
  simp only [opFn,u,p,q,r,agD]
  rw [qq ⟨m,o⟩,q12k,qo4 a s]
  simp only [Option.map_some,f]
theorem qcj {α : Type} {x y : Operand} {a : TypeId} {i : TI} {k : IntKind} {n : Int} {m es : Nat} {v : α} {xs : List α} (b : idxA i.len xs n = some v) (c : Qw ops ⟨sl,hp,nx⟩ ⟨some t,.indexAddr a x y,ty,pos,af,g⟩ = some true) (r : T a = some i)
    (o : AS.ev ⟨sl,hp,nx⟩ x = some (.ref m es 0 0)) (p : AS.ev ⟨sl,hp,nx⟩ y = some (.d (.int k n))) (q : i.kind = .array)
    (h : OpsK P T base ops dr l ⟨(t,.ref m es 0 (n.toNat * i.esize))::sl,hp,nx⟩ K) : OpsK P T base ops dr (⟨some t,.indexAddr a x y,ty,pos,af,g⟩::l) ⟨sl,hp,nx⟩ K:=by
  obtain ⟨f,j,_⟩:=qc7 b
  exact Yf c (v:=.ref m es 0 (n.toNat * i.esize)) (st1:=⟨sl,hp,nx⟩) (by simp [opFn,o,p,r,q3x,q,f,j]) h (J6 rfl)
theorem qg7 {α : Type} {p : Operand} {a : TypeId} {i : TI} {m es sz ln : Nat} {n : Int} {xs : List α} {enc : α→List DV} {v : α} (w : V) (f : idxA ln xs n = some v) (b : ∀ x,(enc x).length = sz) (k : Qw ops ⟨sl,hp,nx⟩ ⟨some t,.load a p,ty,pos,af,g⟩ = some true) (q : T a = some i)
    (o : AS.ev ⟨sl,hp,nx⟩ p = some (.ref m es 0 (n.toNat * sz))) (hb : find hp m = some (.dat es [xs.flatMap enc])) (hs : sz = i.size) (j : (q1v i.agg (enc v)).map .d = some w)
    (h : OpsK P T base ops dr l ⟨(t,w)::sl,hp,nx⟩ K) (c : okF dr l.length (fp ⟨sl,hp,nx⟩ (.load a p)) = true:=by rfl) : OpsK P T base ops dr (⟨some t,.load a p,ty,pos,af,g⟩::l) ⟨sl,hp,nx⟩ K:=
  qlm k q o hb rfl (by rw [← hs];exact qo4 b (qc7 f).2.2) j h c
theorem quc {α : Type} {p x : Operand} {k : TypeId} {i : TI} {m es sz ln : Nat} {n : Int} {xs : List α} {enc : α→List DV} {v : α} (c : α) {u : V} (s : idxA ln xs n = some v) (a : ∀ x,(enc x).length = sz) (t : Qw ops ⟨sl,hp,nx⟩ ⟨none,.store k p x,ty,pos,af,g⟩ = some true) (z : T k = some i)
    (hp' : AS.ev ⟨sl,hp,nx⟩ p = some (.ref m es 0 (n.toNat * sz))) (w : AS.ev ⟨sl,hp,nx⟩ x = some u) (hb : find hp m = some (.dat es [xs.flatMap enc])) (hs : sz = i.size) (o : cellsOf u = (enc c).map .d) (y : (enc c).all Yj = true)
    (h : OpsK P T base ops dr l ⟨sl,repl hp m (.dat es [(xs.set n.toNat c).flatMap enc]),nx⟩ K) (r : okO dr l.length ⟨sl,hp,nx⟩ (.store k p x) ⟨sl,repl hp m (.dat es [(xs.set n.toNat c).flatMap enc]),nx⟩ = true:=by rfl) : OpsK P T base ops dr (⟨none,.store k p x,ty,pos,af,g⟩::l) ⟨sl,hp,nx⟩ K:=by
  have b:=Ke (qc7 s).2.2
  refine Yf t (v:=.dead) (st1:=⟨sl,repl hp m (.dat es [(xs.set n.toNat c).flatMap enc]),nx⟩) ?_ h r
  have j : (cellsOf u).all Kk = true:=by rw [o,List.all_map];exact y
  have f : (cellsOf u).length = i.size:=by rw [o,List.length_map,a];exact hs
  have q : n.toNat * sz + i.size≤(xs.flatMap enc).length:=by
    rw [qrs a,← hs,← Nat.succ_mul];exact Nat.mul_le_mul_right _ b
  simp only [opFn,z,hp',w,Jl,AS.blk,hb,Nat.beq_refl]
  rw [qp (by simp [j,f])]
  simp only [List.getElem?_cons_zero]
  rw [qq q,o,qe4]
  simp only [q12a a b,AS.setBlk,List.set_cons_zero]
  rfl
theorem qdw {α : Type} {st : AS} {ρ : Nat→Nat} {fz ph : List Nat} {nx n es : Nat} {w : Nat × Nat} {ys : List α} {enc : α→List DV} (b : w.1 + w.2≤ys.length) (hb : st.blk n = some (.dat es (ys.map enc))) (a : n∈fz) : Wv st ρ fz ph nx (.hs n es w.1 w.2) (.d (.sl es (((ys.drop w.1).take w.2).map enc))):=
  .frz hb a (by simpa using b) (by rw [List.map_take,List.map_drop]) rfl
theorem qp4 {hp : List (Nat × Blk)} {a : List V} {ds C : List DV} (h : Kq hp a = some ds) : Kq hp (a ++ C.map .d) = some (ds ++ C):=by
  induction a generalizing ds with
  | nil=>
    simp [Kq] at h;subst h
    induction C with
    | nil=>rfl
    | cons c C ih=>
      simp only [List.nil_append,List.map_cons] at ih ⊢
      simp only [Kq]
      rw [show toD hp 8 (.d c) = some c from rfl,ih]
  | cons v a ih=>
    simp only [Kq] at h
    split at h <;> simp at h
    rename_i x l b f
    subst h
    simp only [List.cons_append,Kq,b,ih f]
theorem qrt {a : List V} {C : List DV} : fpC (a ++ C.map .d) = fpC a:=by
  unfold fpC
  have : (C.map V.d).all V.isD = true:=by rw [List.all_map];simp [V.isD]
  rw [List.all_append,this,Bool.and_true]
theorem Yk {c : Call} {f : FuncId} {C ds : List DV} {r : DV} (a : List V) (b : Pure P T f (ds ++ C) r) (j : Qw ops ⟨sl,hp,nx⟩ ⟨some t,.call c,ty,pos,af,g⟩ = some true) (k : callee ⟨sl,hp,nx⟩ c = some (f,a ++ C.map .d)) (hd : Kq hp a = some ds)
    (hs : (a.all V.isD = true∨r.scalar = true)) (h : OpsK P T base ops dr l ⟨(t,.d r)::sl,hp,nx⟩ K) (m : okF dr l.length (fpC a) = true:=by rfl) : OpsK P T base ops dr (⟨some t,.call c,ty,pos,af,g⟩::l) ⟨sl,hp,nx⟩ K:=by
  refine qll j rfl k (qp4 hd) ?_ b h (by rw [qrt];exact m)
  rcases hs with hs | hs
  · left
    rw [List.all_append,hs,Bool.true_and,List.all_map]
    simp [V.isD]
  · exact .inr hs
end
end Go.Am
namespace Go.Am
open Go
theorem Ym {base : Nat} {st st' : AS} (l : List (Nat × Nat)) (fz ph : List Nat) (g : wkOk base l fz ph st'.hp st'.nx = true) (hs : WkL st (rho l) fz ph st'.nx st'.sl) (q : WkH st (rho l) fz ph st'.nx st'.hp) : Wk base (rho l) fz ph st st':=by
  simp only [wkOk,Bool.and_eq_true,Nat.ble_eq,List.all_eq_true] at g
  obtain ⟨⟨⟨⟨u,v⟩,p⟩,w⟩,o⟩:=g
  refine ⟨?_,?_,?_,?_,?_,u,?_,?_⟩
  · exact fun t y h=>hs.get (J2 h)
  · exact fun n x h=>q.get (J2 h)
  · intro n m b c a k d j r
    have:=o _ (J2 a)
    simp only [Bool.or_eq_true,Bool.and_eq_true,q5s,List.all_eq_true,Bool.not_eq_true'] at this
    rcases this with h | h
    · exact absurd h d
    · have:=h.2 _ (J2 k)
      rcases this with (f | f) | f
      · exact absurd f j
      · rw [r] at f;simp at f
      · exact Nat.eq_of_beq_eq_true f
  · intro n b a d s
    have:=o _ (J2 a)
    simp only [Bool.or_eq_true,Bool.and_eq_true,q5s,Bool.not_eq_true'] at this
    rcases this with h | h
    · exact absurd h d
    · rw [q5s.2 s] at h;exact absurd h.1 qe
  · intro n a
    unfold rho
    split
    · rename_i m k
      have:=v _ (J2 k)
      simp at this;omega
    · rfl
  · exact fun n a=>p n a
  · exact fun n a=>w n a
def q8i (l l3 : List (Nat × Nat)) (k k' nx nxN : Nat) : Bool:=
  (List.range k).all (fun i=>Nat.blt (rho l i) nx && Nat.beq (rho l3 (rho l i)) i) && (List.range nx).all (fun m=>(Nat.blt (rho l3 m) k && Nat.beq (rho l (rho l3 m)) m) || Nat.ble k' (rho l3 m)) && Nat.ble nx nxN
def OldL (l : List (Nat × Nat)) (k : Nat) (hp hpR : List (Nat × Blk)) : List (Nat × Blk)→Prop
  | []=>True
  | (m,b)::r=>(find hpR m = some b∨(find hp m = some b∧(List.range k).all (fun i=>!(Nat.beq (rho l i) m)) = true))∧OldL l k hp hpR r
theorem OldL.get {l : List (Nat × Nat)} {k : Nat} {hp a : List (Nat × Blk)} : ∀ {r : List (Nat × Blk)},OldL l k hp a r→∀ m b,(m,b)∈r→find a m = some b∨(find hp m = some b∧∀ i,i < k→rho l i≠m)
  | [],_,m,b,h=>by cases h
  | (m',b')::r,h,m,b,c=>by
    rcases List.mem_cons.1 c with e | c
    · cases e
      refine h.1.imp (fun x=>x) fun ⟨d,h2⟩=>⟨d,fun i hi e=>?_⟩
      have:=List.all_eq_true.1 h2 i (List.mem_range.2 hi)
      rw [e] at this;simp at this
    · exact OldL.get h.2 m b c
section
variable {P : Program} {T : Tab} {base : Nat} {ops : Array Oper} {l : List Oper} {sl : List (Nat × V)} {hp : List (Nat × Blk)} {nx : Nat} {K : AS→Prop} {ty : TypeId} {pos : String} {af : Array Edge} {dst : Option Tmp} {g : Option (Nat × Bool)}
theorem U1 {c : Call} {f : FuncId} {d : List V} {hp0 p : List (Nat × Blk)} {k r : Nat} {vR : V} (v x : List (Nat × Nat)) (u : List V) (y : V) (a o : List (Nat × Blk)) (j : Nat) (he : K8 P T f d hp0 k vR p r) (hg : Qw ops ⟨sl,hp,nx⟩ ⟨dst,.call c,ty,pos,af,g⟩ = some true) (hc : callee ⟨sl,hp,nx⟩ c = some (f,u)) (q : u.length = d.length)
    (s : Wk 0 (rho v) [] [] ⟨Y8 0 u,hp,nx⟩ ⟨Y8 0 d,hp0,k⟩) (t : Wk 0 (rho x) [] [] ⟨[(0,vR)],p,r⟩ ⟨[(0,y)],a,j⟩) (hb : q8i v x k r nx j = true) (hold : OldL v k hp a o)
    (h : OpsK P T base ops none l ((⟨sl,o,j⟩ : AS).putD dst y) K) : OpsK P T base ops none (⟨dst,.call c,ty,pos,af,g⟩::l) ⟨sl,hp,nx⟩ K:=by
  obtain ⟨st2,e2,z⟩:=h
  refine ⟨st2,.callF hg rfl hc q s he t ⟨?_,?_,?_,?_,?_⟩ e2,z⟩
  · intro i hi
    simp only [q8i,Bool.and_eq_true,List.all_eq_true,List.mem_range] at hb
    have:=hb.1.1 i hi
    exact ⟨by simpa [Nat.blt_eq] using this.1,Nat.eq_of_beq_eq_true this.2⟩
  · intro m w
    simp only [q8i,Bool.and_eq_true,List.all_eq_true,List.mem_range,Bool.or_eq_true] at hb
    rcases hb.1.2 m w with n | n
    · exact .inl ⟨by simpa [Nat.blt_eq] using n.1,Nat.eq_of_beq_eq_true n.2⟩
    · exact .inr (by simpa using n)
  · intro m w;cases w
  · exact fun m b n=>hold.get m b (J2 n)
  · simp only [q8i,Bool.and_eq_true] at hb
    simpa using hb.2
end
theorem Kr {P : Program} {T : Tab} {f : FuncId} {fn : Func} {c : Code} {g : List V} {hp b : List (Nat × Blk)} {nx j : Nat} {vR : V} (n : P.funcs[f]? = some fn) (hb : fn.body = some c) (a : (fn.name == "runtime.NumGoroutine") = false) (d : codeOk fn.ntmps c = true) (m : Nat.ble g.length fn.ntmps = true)
    (h : RunK P T nx [c] ⟨Y8 0 g,hp,nx⟩ (fun ex st=>(ex = .nor∨ex = .ret)∧∃ v,resV T st fn.results.toList = some v∧WkE nx ⟨[(0,v)],st.hp,st.nx⟩ ⟨[(0,vR)],b,j⟩)) : K8 P T f g hp nx vR b j:=by
  obtain ⟨ex,st',e,l,v,k,ρ,fz,ph,w⟩:=q5a h
  exact .wk (.mk n hb a d (by simpa using m) e l k) w
def shlK (k : IntKind) (x y : Int) : Option Int:=if y < 0 then none else some (k.wrap (x * 2 ^ (min y.toNat k.bits)))
section
variable {P : Program} {T : Tab} {base : Nat} {ops : Array Oper} {dr : Dr} {l : List Oper} {sl : List (Nat × V)} {hp : List (Nat × Blk)} {nx : Nat} {K : AS→Prop} {ty : TypeId} {pos : String} {af : Array Edge} {t : Tmp} {g : Option (Nat × Bool)}
theorem qua {x y : Operand} {j f : TypeId} {a b r : Int} {k o : IntKind} (c : shlK k a b = some r) (m : Qw ops ⟨sl,hp,nx⟩ ⟨some t,.binOp .shl j x y f,ty,pos,af,g⟩ = some true) (p : AS.ev ⟨sl,hp,nx⟩ x = some (.d (.int k a))) (q : AS.ev ⟨sl,hp,nx⟩ y = some (.d (.int o b)))
    (h : OpsK P T base ops dr l ⟨(t,.d (.int k r))::sl,hp,nx⟩ K) : OpsK P T base ops dr (⟨some t,.binOp .shl j x y f,ty,pos,af,g⟩::l) ⟨sl,hp,nx⟩ K:=by
  unfold shlK at c
  split at c
  · cases c
  · rename_i n;cases c
    exact Yf m (v:=.d (.int k (k.wrap (a * 2 ^ (min b.toNat k.bits))))) (st1:=⟨sl,hp,nx⟩) (by simp [opFn,p,q,binD,q9n,n]) h (J6 rfl)
end
def K3 (n m : Nat) : Option Unit:=if n = m then some () else none
theorem Kn {n m : Nat} {u : Unit} (h : K3 n m = some u) : n = m:=by
  unfold K3 at h
  split at h
  · assumption
  · cases h
def q4x (s : ByteArray) (i : Int) : Option Int:=(if 0≤i then s[i.toNat]? else none).map fun b=>(b.toNat : Int)
theorem qu2 {P : Program} {T : Tab} {base : Nat} {ops : Array Oper} {dr : Dr} {l : List Oper} {sl : List (Nat × V)} {hp : List (Nat × Blk)} {nx : Nat} {K : AS→Prop} {ty : TypeId} {pos : String} {af : Array Edge} {t : Tmp} {g : Option (Nat × Bool)} {x y : Operand} {c : TypeId} {i : TI} {k : IntKind} {n v : Int} (s : ByteArray) (a : q4x s n = some v) (f : Qw ops ⟨sl,hp,nx⟩ ⟨some t,.index c x y,ty,pos,af,g⟩ = some true) (p : T c = some i)
    (j : AS.ev ⟨sl,hp,nx⟩ x = some (.d (.str s))) (m : AS.ev ⟨sl,hp,nx⟩ y = some (.d (.int k n))) (o : i.kind = .str)
    (h : OpsK P T base ops dr l ⟨(t,.d (.int .u8 v))::sl,hp,nx⟩ K) : OpsK P T base ops dr (⟨some t,.index c x y,ty,pos,af,g⟩::l) ⟨sl,hp,nx⟩ K:=by
  unfold q4x at a
  rw [Y5] at a
  obtain ⟨b,hb,rfl⟩:=a
  refine Yf f (v:=.d (.int .u8 b.toNat)) (st1:=⟨sl,hp,nx⟩) ?_ h (J6 rfl)
  simp only [opFn,p,j,m,o,hb,Option.map_some]
open Classical in
noncomputable def lim {α : Type} (f : Nat→Option α) : Option α:=if h : ∃ r n,f n = some r then some h.choose else none
theorem qfo {α : Type} {f : Nat→Option α} {r : α} (h : lim f = some r) : ∃ n,f n = some r:=by
  unfold lim at h
  split at h
  · rename_i a;cases h;exact a.choose_spec
  · cases h
theorem qt1 {α : Type} {f : Nat→Option α} {n : Nat} {r : α} (h : f n = some r) : ∃ a,lim f = some a:=by
  unfold lim
  rw [dif_pos ⟨r,n,h⟩]
  exact ⟨_,rfl⟩
theorem Ys {P : Program} {T : Tab} {base : Nat} {c : Code} {cs : List Code} {st : AS} {K : Ex→AS→Prop} (h : RunK P T base (c::.loop c::cs) st K) : RunK P T base (.loop c::cs) st K:=by
  obtain ⟨ex,st1,d,a⟩:=h
  cases ex with
  | nor=>
    obtain ⟨b,st2,g,f⟩:=a
    exact ⟨b,st2,.loopN d g,f⟩
  | exit i=>exact ⟨_,_,.loopX d qe,a⟩
  | ret=>exact ⟨_,_,.loopX d qe,a⟩
def idxW {α : Type} (xs : List α) (w : Nat × Nat) (k : Int) : Option α:=if 0≤k∧k < w.2 then xs[w.1 + k.toNat]? else none
theorem qfh {α : Type} {xs : List α} {w : Nat × Nat} {k : Int} {v : α} (h : idxW xs w k = some v) : idx xs ((w.1 : Int) + k) = some v:=by
  unfold idxW at h
  split at h
  · rename_i a
    unfold idx
    rw [qq q0]
    rw [show ((w.1 : Int) + k).toNat = w.1 + k.toNat by omega];exact h
  · cases h
def q1b (n : Nat) (w : Nat × Nat) : Option Unit:=if w.1 + w.2≤n then some () else none
theorem qdu {n : Nat} {w : Nat × Nat} {u : Unit} (h : q1b n w = some u) : w.1 + w.2≤n:=by
  unfold q1b at h
  split at h
  · assumption
  · cases h
def clrw {α : Type} (xs : List α) (w : Nat × Nat) (z : α) : List α:=splice xs w.1 (List.replicate w.2 z)
theorem qis {α : Type} {xs : List α} {w : Nat × Nat} {z : α} (h : w.1 + w.2≤xs.length) : (clrw xs w z).length = xs.length:=by
  unfold clrw splice;simp;omega
section
variable {P : Program} {T : Tab} {base : Nat} {ops : Array Oper} {dr : Dr} {l : List Oper} {sl : List (Nat × V)} {hp : List (Nat × Blk)} {nx : Nat} {K : AS→Prop} {ty : TypeId} {pos : String} {af : Array Edge} {t : Tmp} {g : Option (Nat × Bool)}
theorem qg6 {α : Type} {x y : Operand} {b : TypeId} {i : TI} {k : IntKind} {n : Int} {m es : Nat} {xs : List α} {w : Nat × Nat} {v : α} (a : idxW xs w n = some v) (j : Qw ops ⟨sl,hp,nx⟩ ⟨some t,.indexAddr b x y,ty,pos,af,g⟩ = some true) (r : T b = some i)
    (o : AS.ev ⟨sl,hp,nx⟩ x = some (.hs m es w.1 w.2)) (p : AS.ev ⟨sl,hp,nx⟩ y = some (.d (.int k n))) (q : i.kind = .slice) (f : es = i.esize)
    (h : OpsK P T base ops dr l ⟨(t,.ref m es ((w.1 : Int) + n).toNat 0)::sl,hp,nx⟩ K) : OpsK P T base ops dr (⟨some t,.indexAddr b x y,ty,pos,af,g⟩::l) ⟨sl,hp,nx⟩ K:=by
  have c : 0≤n∧n < w.2:=by
    unfold idxW at a
    split at a
    · assumption
    · cases a
  refine qty j r o p q f c.1 c.2 ?_
  rw [show ((w.1 : Int) + n).toNat = w.1 + n.toNat by omega] at h;exact h
theorem qtw {α : Type} {x : Operand} {a : TypeId} {i : TI} {n es : Nat} {xs : List α} {enc : α→List DV} (z : α) {w : Nat × Nat} (f : w.1 + w.2≤xs.length) (k : Qw ops ⟨sl,hp,nx⟩ ⟨none,.call {callee:=.builtin .clear,args:=#[x],argTypes:=#[a]},ty,pos,af,g⟩ = some true) (p : T a = some i)
    (m : AS.ev ⟨sl,hp,nx⟩ x = some (.hs n es w.1 w.2)) (hb : find hp n = some (.dat es (xs.map enc))) (o : i.kind = .slice) (j : i.esize = es) (c : i.ezero = enc z)
    (h : OpsK P T base ops dr l ⟨sl,repl hp n (.dat es ((clrw xs w z).map enc)),nx⟩ K) (b : okO dr l.length ⟨sl,hp,nx⟩ (.call {callee:=.builtin .clear,args:=#[x],argTypes:=#[a]}) ⟨sl,repl hp n (.dat es ((clrw xs w z).map enc)),nx⟩ = true:=by rfl) :
    OpsK P T base ops dr (⟨none,.call {callee:=.builtin .clear,args:=#[x],argTypes:=#[a]},ty,pos,af,g⟩::l) ⟨sl,hp,nx⟩ K:=by
  subst j
  refine Yf k (v:=.d (.tup [])) (st1:=⟨sl,repl hp n (.dat i.esize ((clrw xs w z).map enc)),nx⟩) ?_ h b
  simp only [opFn,evL,m,Y9]
  simp only [List.getElem?_toArray,List.getElem?_cons_zero,p]
  rw [qq ⟨o,by simp [J1]⟩]
  simp only [Jx,AS.blk,hb]
  rw [qq ⟨by simpa using f,trivial⟩,c]
  simp [clrw,splice,AS.setBlk]
end
section
variable {P : Program} {T : Tab} {base : Nat} {ops : Array Oper} {dr : Dr} {l : List Oper} {sl : List (Nat × V)} {hp : List (Nat × Blk)} {nx : Nat} {K : AS→Prop} {ty : TypeId} {pos : String} {af : Array Edge} {t : Tmp} {g : Option (Nat × Bool)}
end
end Go.Am
namespace Go.Am
open Go
theorem J {α : Sort _} {a : α} : a = a:=rfl
abbrev q8 (n : Int) : DV:=.int .i64 n
abbrev q6 (n : Int) : V:=.d (.int .i64 n)
abbrev Q0 (b : Bool) : V:=.d (.bool b)
section
variable {P : Program} {T : Tab} {base : Nat} {ops : Array Oper} {dr : Dr} {l : List Oper} {sl : List (Nat × V)} {hp : List (Nat × Blk)} {nx : Nat} {K : AS→Prop} {ty : TypeId} {pos : String} {af : Array Edge} {t : Tmp} {g : Option (Nat × Bool)} {v : V}
theorem O {x : Operand} (a : (Qw ops ⟨sl,hp,nx⟩ ⟨some t,.move x,ty,pos,af,g⟩,AS.ev ⟨sl,hp,nx⟩ x) = (some true,some v))
    (h : OpsK P T base ops dr l ⟨(t,v)::sl,hp,nx⟩ K) : OpsK P T base ops dr (⟨some t,.move x,ty,pos,af,g⟩::l) ⟨sl,hp,nx⟩ K:=qg8 (Prod.mk.inj a).1 (Prod.mk.inj a).2 h
theorem qa {x : Operand} (a : (Qw ops ⟨sl,hp,nx⟩ ⟨some t,.assign x,ty,pos,af,g⟩,AS.ev ⟨sl,hp,nx⟩ x) = (some true,some v))
    (h : OpsK P T base ops dr l ⟨(t,v)::sl,hp,nx⟩ K) : OpsK P T base ops dr (⟨some t,.assign x,ty,pos,af,g⟩::l) ⟨sl,hp,nx⟩ K:=qtv (Prod.mk.inj a).1 (Prod.mk.inj a).2 h
theorem G {op : Op} (v : V) (a : (Qw ops ⟨sl,hp,nx⟩ ⟨some t,op,ty,pos,af,g⟩,opFn T ⟨sl,hp,nx⟩ op) = (some true,some (v,⟨sl,hp,nx⟩))) (h : OpsK P T base ops dr l ⟨(t,v)::sl,hp,nx⟩ K)
    (b : okO dr l.length ⟨sl,hp,nx⟩ (op) ⟨sl,hp,nx⟩ = true:=by rfl) : OpsK P T base ops dr (⟨some t,op,ty,pos,af,g⟩::l) ⟨sl,hp,nx⟩ K:=que v (Prod.mk.inj a).1 (Prod.mk.inj a).2 h b
theorem Ql {op : Op} (n : Nat) (b : Blk) (a : (Qw ops ⟨sl,hp,nx⟩ ⟨none,op,ty,pos,af,g⟩,opFn T ⟨sl,hp,nx⟩ op) = (some true,some (.dead,⟨sl,repl hp n b,nx⟩))) (h : OpsK P T base ops dr l ⟨sl,repl hp n b,nx⟩ K) (c : okO dr l.length ⟨sl,hp,nx⟩ (op) ⟨sl,repl hp n b,nx⟩ = true:=by rfl) : OpsK P T base ops dr (⟨none,op,ty,pos,af,g⟩::l) ⟨sl,hp,nx⟩ K:=
  qud n b (Prod.mk.inj a).1 (Prod.mk.inj a).2 h c
theorem Qs {op : Op} (v : V) (b : Blk) (a : (Qw ops ⟨sl,hp,nx⟩ ⟨some t,op,ty,pos,af,g⟩,opFn T ⟨sl,hp,nx⟩ op) = (some true,some (v,⟨sl,(nx,b)::hp,nx + 1⟩))) (h : OpsK P T base ops dr l ⟨(t,v)::sl,(nx,b)::hp,nx + 1⟩ K) (c : okO dr l.length ⟨sl,hp,nx⟩ (op) ⟨sl,(nx,b)::hp,nx + 1⟩ = true:=by rfl) : OpsK P T base ops dr (⟨some t,op,ty,pos,af,g⟩::l) ⟨sl,hp,nx⟩ K:=
  qu7 v b (Prod.mk.inj a).1 (Prod.mk.inj a).2 h c
theorem q5v {α : Type} {x : Operand} {a : TypeId} {i : TI} {es : Nat} {xs : List α} {enc : α→List DV} (n : Int) (c : (xs.length : Int) = n) (b : Qw ops ⟨sl,hp,nx⟩ ⟨some t,.call {callee:=.builtin .len,args:=#[x],argTypes:=#[a]},ty,pos,af,g⟩ = some true) (k : T a = some i) (j : i.kind = .slice) (f : AS.ev ⟨sl,hp,nx⟩ x = some (.d (.sl es (xs.map enc))))
    (h : OpsK P T base ops dr l ⟨(t,.d (.int .i64 n))::sl,hp,nx⟩ K) : OpsK P T base ops dr (⟨some t,.call {callee:=.builtin .len,args:=#[x],argTypes:=#[a]},ty,pos,af,g⟩::l) ⟨sl,hp,nx⟩ K:=by
  subst c;exact qln b k j f h
theorem Qc {α : Type} {x y : Operand} {a : TypeId} {i : TI} {k : IntKind} {n : Int} {es : Nat} {xs : List α} {enc : α→List DV} {v : α} (j : idx xs n = some v)
    (b : (Qw ops ⟨sl,hp,nx⟩ ⟨some t,.indexAddr a x y,ty,pos,af,g⟩,T a,AS.ev ⟨sl,hp,nx⟩ x,AS.ev ⟨sl,hp,nx⟩ y,i.kind,es) = (some true,some i,some (.d (.sl es (xs.map enc))),some (.d (.int k n)),.slice,i.esize))
    (h : OpsK P T base ops dr l ⟨(t,.dref (enc v) 0)::sl,hp,nx⟩ K) : OpsK P T base ops dr (⟨some t,.indexAddr a x y,ty,pos,af,g⟩::l) ⟨sl,hp,nx⟩ K:=by
  simp only [Prod.mk.injEq] at b
  obtain ⟨m,o,f,p,c,q⟩:=b
  exact qu0 j m o f p c q h
theorem qz {α : Type} {x y : Operand} {a : TypeId} {i : TI} {k : IntKind} {n : Int} {m es len : Nat} {xs : List α} {v : α} (j : idx xs n = some v) (r : len = xs.length)
    (b : (Qw ops ⟨sl,hp,nx⟩ ⟨some t,.indexAddr a x y,ty,pos,af,g⟩,T a,AS.ev ⟨sl,hp,nx⟩ x,AS.ev ⟨sl,hp,nx⟩ y,i.kind,es) = (some true,some i,some (.hs m es 0 len),some (.d (.int k n)),.slice,i.esize))
    (h : OpsK P T base ops dr l ⟨(t,.ref m es n.toNat 0)::sl,hp,nx⟩ K) : OpsK P T base ops dr (⟨some t,.indexAddr a x y,ty,pos,af,g⟩::l) ⟨sl,hp,nx⟩ K:=by
  simp only [Prod.mk.injEq] at b
  obtain ⟨o,p,f,q,c,s⟩:=b
  exact qtz j r o p f q c s h
theorem Qd {α : Type} {p : Operand} {a : TypeId} {i : TI} {m es j : Nat} {n : Int} {xs : List α} {enc : α→List DV} {r : List DV} {v : α} (w : V) (o : idx xs n = some v)
    (b : (Qw ops ⟨sl,hp,nx⟩ ⟨some t,.load a p,ty,pos,af,g⟩,T a,AS.ev ⟨sl,hp,nx⟩ p,find hp m,sub (enc v) j i.size,(q1v i.agg r).map V.d) = (some true,some i,some (.ref m es n.toNat j),some (.dat es (xs.map enc)),some r,some w))
    (h : OpsK P T base ops dr l ⟨(t,w)::sl,hp,nx⟩ K) (c : okF dr l.length (fp ⟨sl,hp,nx⟩ (.load a p)) = true:=by rfl) : OpsK P T base ops dr (⟨some t,.load a p,ty,pos,af,g⟩::l) ⟨sl,hp,nx⟩ K:=by
  simp only [Prod.mk.injEq] at b
  obtain ⟨q,s,k,u,f,x⟩:=b
  exact qu4 w o q s k u f x h c
theorem Qi {α : Type} {x : Operand} {a : TypeId} {i : TI} {es : Nat} {xs : List α} {enc : α→List DV}
    (b : (Qw ops ⟨sl,hp,nx⟩ ⟨some t,.call {callee:=.builtin .len,args:=#[x],argTypes:=#[a]},ty,pos,af,g⟩,T a,i.kind,AS.ev ⟨sl,hp,nx⟩ x) = (some true,some i,.slice,some (.d (.sl es (xs.map enc)))))
    (h : OpsK P T base ops dr l ⟨(t,.d (.int .i64 (xs.length : Int)))::sl,hp,nx⟩ K) : OpsK P T base ops dr (⟨some t,.call {callee:=.builtin .len,args:=#[x],argTypes:=#[a]},ty,pos,af,g⟩::l) ⟨sl,hp,nx⟩ K:=by
  simp only [Prod.mk.injEq] at b
  obtain ⟨c,j,f,k⟩:=b
  exact qln c j f k h
theorem Q4 {c : Call} {f : FuncId} {ds : List DV} {r : DV} {a : List V} (b : Pure P T f ds r) (j : (Qw ops ⟨sl,hp,nx⟩ ⟨some t,.call c,ty,pos,af,g⟩,callee ⟨sl,hp,nx⟩ c,Kq hp a,a.all V.isD) = (some true,some (f,a),some ds,true))
    (h : OpsK P T base ops dr l ⟨(t,.d r)::sl,hp,nx⟩ K) (p : okF dr l.length (fpC a) = true:=by rfl) : OpsK P T base ops dr (⟨some t,.call c,ty,pos,af,g⟩::l) ⟨sl,hp,nx⟩ K:=by
  simp only [Prod.mk.injEq] at j
  obtain ⟨k,n,m,o⟩:=j
  exact q2z a b k n m (.inl o) h p
theorem Q5 {st : AS} {c : List ResultVar} {r : DV} (v : V) (a : (resV T st c,toD st.hp 8 v) = (some v,some r)) : (Ex.ret = .nor∨Ex.ret = .ret)∧∃ v b,resV T st c = some v∧toD st.hp 8 v = some b∧DLe b r:=by
  simp only [Prod.mk.injEq] at a
  exact ⟨.inr rfl,v,r,a.1,a.2,.refl _⟩
theorem qc {id : Nat} {ops : Array Oper} {b : Code} {cs : List Code} {st : AS} {K : Ex→AS→Prop} (h : OpsK P T base ops none ops.toList st (fun st'=>RunK P T base (b::cs) st' K)) : RunK P T base (.seq (.region id ops false) b::cs) st K:=qf (qw h)
theorem qt {a ops : Array Oper} {id : Nat} {b : Code} {cs : List Code} {st : AS} {K : Ex→AS→Prop} (h : OpsK P T base ops none ops.toList st (fun st'=>RunK P T base (b::cs) st' K)) : OpsK P T base a dr [] st (fun st'=>RunK P T base (.seq (.region id ops false) b::cs) st' K):=q9 (qf (qw h))
theorem qs {a : Array Oper} {cs : List Code} {st : AS} {K : Ex→AS→Prop} (h : K .ret st) : OpsK P T base a dr [] st (fun st'=>RunK P T base (.ret::cs) st' K):=q9 (q15 h)
theorem qv {a : Array Oper} {st : AS} {K : Ex→AS→Prop} (h : K .nor st) : OpsK P T base a dr [] st (fun st'=>RunK P T base [] st' K):=q9 (Qf h)
theorem K9 {dst : Option Tmp} {c : Call} {f : FuncId} {m : List V} {hp0 o : List (Nat × Blk)} {k s : Nat} {vR : V} (j p : List (Nat × Nat)) (q : List V) (t : V) (n : Nat) (a : List (Nat × Blk)) (b : Nat) (x : K8 P T f m hp0 k vR o s)
    (h : OpsK P T base ops none l ((⟨sl,a,b⟩ : AS).putD dst t) K)
    (y : Qw ops ⟨sl,hp,nx⟩ ⟨dst,.call c,ty,pos,af,g⟩ = some true:=by exact rfl) (z : callee ⟨sl,hp,nx⟩ c = some (f,q):=by exact rfl) (r : q.length = m.length:=by exact rfl)
    (v : wkOk 0 j [] [] hp0 k = true:=by exact rfl)
    (u : WkL ⟨Y8 0 q,hp,nx⟩ (rho j) [] [] k (Y8 0 m):=by
      repeat' first | exact trivial | refine And.intro (Exists.intro _ (And.intro rfl ?_)) ?_ | exact Wv.d (DLe.refl _) | exact Wv.ref rfl qx (ltd rfl) | exact Wv.mp rfl qx (ltd rfl) | exact Wv.hs rfl qx (ltd rfl) | exact Wv.d (DLe.nil _) | refine qdv ?_ | refine qhi ?_ | refine q2c ?_ | refine WvL.cons ?_ ?_ | exact WvL.nil | exact Wv.dref _ _ | exact Wv.yld rfl qx (ltd rfl))
    (b1 : WkH ⟨Y8 0 q,hp,nx⟩ (rho j) [] [] k hp0:=by
      repeat' first | exact trivial | refine And.intro (And.intro (ltd rfl) (Or.inr (And.intro qx (Exists.intro _ (And.intro rfl ?_))))) ?_ | exact Wb.dat _ _ | exact Wb.mp _ | refine Jm ?_ | refine qhf ?_ | refine WvC.cons ?_ rfl ?_ | exact WvC.nil | exact Wv.d (DLe.refl _) | exact Wv.ref rfl qx (ltd rfl) | exact Wv.mp rfl qx (ltd rfl) | exact Wv.hs rfl qx (ltd rfl) | exact Wv.d (DLe.nil _))
    (w : wkOk 0 p [] [] (a.take n) b = true:=by exact rfl)
    (s3 : WkL ⟨[(0,vR)],o,s⟩ (rho p) [] [] b [(0,t)]:=by
      repeat' first | exact trivial | refine And.intro (Exists.intro _ (And.intro rfl ?_)) ?_ | exact Wv.d (DLe.refl _) | exact Wv.ref rfl qx (ltd rfl) | exact Wv.mp rfl qx (ltd rfl) | exact Wv.hs rfl qx (ltd rfl) | exact Wv.d (DLe.nil _) | refine qdv ?_ | refine qhi ?_ | refine q2c ?_ | refine WvL.cons ?_ ?_ | exact WvL.nil | exact Wv.dref _ _ | exact Wv.yld rfl qx (ltd rfl))
    (b3 : WkH ⟨[(0,vR)],o,s⟩ (rho p) [] [] b (a.take n):=by
      repeat' first | exact trivial | refine And.intro (And.intro (ltd rfl) (Or.inr (And.intro qx (Exists.intro _ (And.intro rfl ?_))))) ?_ | exact Wb.dat _ _ | exact Wb.mp _ | refine Jm ?_ | refine qhf ?_ | refine WvC.cons ?_ rfl ?_ | exact WvC.nil | exact Wv.d (DLe.refl _) | exact Wv.ref rfl qx (ltd rfl) | exact Wv.mp rfl qx (ltd rfl) | exact Wv.hs rfl qx (ltd rfl) | exact Wv.d (DLe.nil _))
    (hb : q8i j p k s nx b = true:=by exact rfl)
    (hold : OldL j k hp (a.take n) a:=by repeat' first | exact trivial | refine And.intro (Or.inl rfl) ?_ | refine And.intro (Or.inr (And.intro rfl rfl)) ?_) :
    OpsK P T base ops none (⟨dst,.call c,ty,pos,af,g⟩::l) ⟨sl,hp,nx⟩ K:=
  U1 j p q t (a.take n) a b x y z r (Ym j [] [] v u b1) (Ym p [] [] w s3 b3) hb hold h
end
inductive WvR (st : AS) (ρ : Nat→Nat) (fz ph : List Nat) (nx : Nat) : List (List V)→List (List V)→Prop
  | nil : WvR st ρ fz ph nx [] []
  | cons {c d : List V} {cs ds : List (List V)} : WvC st ρ fz ph nx c d→WvR st ρ fz ph nx cs ds→WvR st ρ fz ph nx (c::cs) (d::ds)
theorem WvR.len {st : AS} {ρ : Nat→Nat} {fz ph : List Nat} {nx : Nat} {cs ds : List (List V)} (h : WvR st ρ fz ph nx cs ds) : cs.length = ds.length:=by
  induction h with
  | nil=>rfl
  | cons _ _ ih=>simp [ih]
theorem WvR.get {st : AS} {ρ : Nat→Nat} {fz ph : List Nat} {nx : Nat} {cs ds : List (List V)} (h : WvR st ρ fz ph nx cs ds) : ∀ (j : Nat) (c d : List V),cs[j]? = some c→ds[j]? = some d→WvC st ρ fz ph nx c d:=by
  induction h with
  | nil=>intro i x y h;simp at h
  | cons h1 _ ih=>
    intro i x y b a
    cases i with
    | zero=>simp at b a;subst b;subst a;exact h1
    | succ i=>exact ih i x y (by simpa using b) (by simpa using a)
theorem q13q {st : AS} {ρ : Nat→Nat} {fz ph : List Nat} {nx es : Nat} {cs ds : List (List V)} (h : WvR st ρ fz ph nx cs ds) : Wb st ρ fz ph nx (.cel es cs) (.cel es ds):=
  .cel h.len fun i x y a b=>⟨(h.get i x y a b).len,(h.get i x y a b).get⟩
theorem q13r {st : AS} {ρ : Nat→Nat} {fz ph : List Nat} {nx es : Nat} {cs : List (List DV)} {ds : List (List V)} (h : WvR st ρ fz ph nx (cs.map (·.map .d)) ds) : Wb st ρ fz ph nx (.dat es cs) (.cel es ds):=by
  refine .datcel (by simpa using h.len) fun i x y f g=>?_
  have a:=h.get i (x.map .d) y (by simp [f]) g
  refine ⟨by simpa using a.len,fun j c d b hd=>a.get j (.d c) d (by simp [b]) hd⟩
theorem wkA {base : Nat} {st st' : AS} (l : List (Nat × Nat)) (fz ph : List Nat) (a : wkOk base l fz ph st'.hp st'.nx = true:=by exact rfl)
    (hs : WkL st (rho l) fz ph st'.nx st'.sl:=by
      repeat' first | exact trivial | refine And.intro (Exists.intro _ (And.intro rfl ?_)) ?_ | exact Wv.d (DLe.refl _) | exact Wv.ref rfl qx (ltd rfl) | exact Wv.mp rfl qx (ltd rfl) | exact Wv.hs rfl qx (ltd rfl) | exact Wv.d (DLe.nil _) | exact Wv.nil qx (ltd rfl) | exact qow rfl rfl qx | refine qdv ?_ | refine q13x ?_ | refine qhi ?_ | refine q13y ?_ | refine q2c ?_ | refine WvL.cons ?_ ?_ | exact WvL.nil | exact Wv.dref _ _ | exact Wv.yld rfl qx (ltd rfl))
    (b : WkH st (rho l) fz ph st'.nx st'.hp:=by
      repeat' first | exact trivial | refine And.intro (And.intro (ltd rfl) (Or.inr (And.intro qx (Exists.intro _ (And.intro rfl ?_))))) ?_ | refine And.intro (And.intro (ltd rfl) (Or.inl (And.intro qx (Exists.intro _ (And.intro qx rfl))))) ?_ | exact Wb.dat _ _ | exact Wb.mp _ | refine Jm ?_ | refine qhf ?_ | refine q13q ?_ | refine q13r ?_ | refine WvR.cons ?_ ?_ | exact WvR.nil | refine q13s ?_ | refine WvS.cons rfl ?_ ?_ | exact WvS.nil | refine WvC.cons ?_ rfl ?_ | exact WvC.nil | exact Wv.d (DLe.refl _) | exact Wv.ref rfl qx (ltd rfl) | exact Wv.mp rfl qx (ltd rfl) | exact Wv.hs rfl qx (ltd rfl) | exact Wv.d (DLe.nil _) | exact Wv.nil qx (ltd rfl) | exact qow rfl rfl qx | refine q2c ?_ | refine qdv ?_ | refine WvL.cons ?_ ?_ | exact WvL.nil | exact Wv.yld rfl qx (ltd rfl)) : WkE base st st':=wkE l fz ph a hs b
theorem qr {st : AS} {ρ : Nat→Nat} {fz ph : List Nat} {nx t : Nat} {x : DV} (h : st.get t = some (.d x)) : ∃ v,st.get t = some v∧Wv st ρ fz ph nx v (.d x):=⟨_,h,.d (.refl _)⟩
theorem Qt {st : AS} {ρ : Nat→Nat} {fz ph : List Nat} {nx n es : Nat} {xs : List (List DV)} (a : Nat.blt n nx = true) (c : st.blk (ρ n) = some (.dat es xs)) (d : n ∉ ph:=by decide) :
    n < nx∧((n∈ph∧∃ e,e≠0∧(Blk.dat es xs) = .dat e [])∨(n ∉ ph∧∃ b,st.blk (ρ n) = some b∧Wb st ρ fz ph nx b (.dat es xs))):=⟨ltd a,.inr ⟨d,_,c,.dat _ _⟩⟩
abbrev U : Option (List Nat) × List Nat:=(some [],[])
abbrev qu (n : Nat) : Option (List Nat) × List Nat:=(some [n],[])
abbrev Qv (n : Nat) : Option (List Nat) × List Nat:=(some [n],[n])
end Go.Am
namespace Go.Am
open Go
inductive DLeR : List (List DV)→List (List DV)→Prop
  | nil : DLeR [] []
  | cons {x y : List DV} {xs ys : List (List DV)} : DLeL x y→DLeR xs ys→DLeR (x::xs) (y::ys)
structure q3j (ag : Bool) (ks : List (Option IntKind)) {α : Type} [DecidableEq α] (ek : α→DV) : Prop where
  agg : ∀ k,Zt (ek k) = ag
  len : ∀ k,(cellsD (ek k)).length = ks.length
  eq : ∀ a b,Kf ks (cellsD (ek a)) (cellsD (ek b)) = some (decide (a = b))
theorem key2 {k j : IntKind} : q3j true [some k,some j] (fun n : Int × Int=>DV.agg [.int k n.1,.int j n.2]):=
  ⟨fun _=>rfl,fun _=>rfl,fun a b=>by
    obtain ⟨d,c⟩:=a;obtain ⟨b1,f⟩:=b
    simp [cellsD,Kf,q2e];rfl⟩
section
variable {α β : Type} [DecidableEq α]
def Zb (z : β) (k : α) : List (α × β)→β
  | []=>z
  | (a,v)::r=>if k = a then v else Zb z k r
def qfz (k : α) : List (α × β)→Bool
  | []=>false
  | (a,_)::r=>if k = a then true else qfz k r
def Ul (k : α) (v : β) : List (α × β)→List (α × β)
  | []=>[(k,v)]
  | (a,w)::r=>if k = a then (k,v)::r else (a,w)::Ul k v r
abbrev mrow (ek : α→DV) (ev : β→DV) (es : List (α × β)) : List (DV × DV):=es.map fun e=>(ek e.1,ev e.2)
variable {ag : Bool} {ks : List (Option IntKind)} {ek : α→DV} {ev : β→DV}
def q2x (k : α) : List (α × β)→Option Nat
  | []=>none
  | (a,_)::r=>if k = a then some 0 else (q2x k r).map (· + 1)
theorem qfy (b : q3j ag ks ek) (k : α) : ∀ es : List (α × β),Zn ag ks (ek k) (mrow ek ev es) = some (q2x k es)
  | []=>rfl
  | (a,v)::r=>by
    have c:=qfy b k r
    simp only [mrow,List.map_cons,Zn,b.agg,and_self,if_true,b.eq,q2x] at c ⊢
    by_cases h : k = a
    · simp [h]
    · simp only [h,decide_false,if_false,c]
      cases q2x k r <;> rfl
theorem qku (a : q3j ag ks ek) (k : α) : Ui ag ks (ek k) = true:=by
  simp [Ui,a.agg,a.len]
theorem qth (b : q3j ag ks ek) (z : β) (k : α) (es : List (α × β)) : mget ag ks (ev z) (ek k) (mrow ek ev es) = some (ev (Zb z k es),qfz k es):=by
  unfold mget
  rw [qfy b]
  induction es with
  | nil=>rfl
  | cons e r ih=>
    obtain ⟨a,v⟩:=e
    simp only [q2x,Zb,qfz]
    by_cases h : k = a
    · simp [h]
    · simp only [h,if_false]
      cases hp : q2x k r with
      | none=>rw [hp] at ih;simpa using ih
      | some j=>rw [hp] at ih;simpa using ih
theorem qtm (b : q3j ag ks ek) (k : α) (v : β) (es : List (α × β)) : mput ag ks (ek k) (ev v) (mrow ek ev es) = some (mrow ek ev (Ul k v es)):=by
  unfold mput
  rw [qfy b]
  induction es with
  | nil=>rfl
  | cons e r ih=>
    obtain ⟨a,w⟩:=e
    simp only [q2x,Ul]
    by_cases h : k = a
    · simp [h]
    · simp only [h,if_false]
      cases hp : q2x k r with
      | none=>rw [hp] at ih;simp at ih ⊢;exact ih
      | some j=>rw [hp] at ih;simp at ih ⊢;exact ih
end
section
variable {P : Program} {T : Tab} {base : Nat} {ops : Array Oper} {dr : Dr} {l : List Oper} {sl : List (Nat × V)} {hp : List (Nat × Blk)} {nx : Nat} {K : AS→Prop} {ty : TypeId} {pos : String} {af : Array Edge} {t : Tmp} {g : Option (Nat × Bool)}
variable {α β : Type} [DecidableEq α] {ek : α→DV} {ev : β→DV} {mt : TypeId} {i : TI} {ks : List (Option IntKind)} {n : Nat} {es : List (α × β)}
theorem qu5 {x a : Operand} (c : q3j i.eagg ks ek) (z : β) (k : α) (f : Qw ops ⟨sl,hp,nx⟩ ⟨some t,.lookup mt x a false,ty,pos,af,g⟩ = some true) (p : T mt = some i) (b : i.keys = some ks) (j : i.ezero = [ev z])
    (m : AS.ev ⟨sl,hp,nx⟩ x = some (.mp n)) (o : AS.ev ⟨sl,hp,nx⟩ a = some (.d (ek k))) (hb : find hp n = some (.mp (mrow ek ev es)))
    (h : OpsK P T base ops dr l ⟨(t,.d (ev (Zb z k es)))::sl,hp,nx⟩ K) (q : okO dr l.length ⟨sl,hp,nx⟩ (.lookup mt x a false) ⟨sl,hp,nx⟩ = true:=by rfl) : OpsK P T base ops dr (⟨some t,.lookup mt x a false,ty,pos,af,g⟩::l) ⟨sl,hp,nx⟩ K:=by
  refine Yf f (v:=.d (ev (Zb z k es))) (st1:=⟨sl,hp,nx⟩) ?_ h q
  simp only [opFn,p,m,o,b,AS.blk,hb,j,qku c,if_true,qth c,Option.map_some,qy]
theorem qu6 {m a y : Operand} (c : q3j i.eagg ks ek) (k : α) (v : β) (f : Qw ops ⟨sl,hp,nx⟩ ⟨none,.mapUpdate mt m a y,ty,pos,af,g⟩ = some true) (q : T mt = some i) (b : i.keys = some ks)
    (r : AS.ev ⟨sl,hp,nx⟩ m = some (.mp n)) (p : AS.ev ⟨sl,hp,nx⟩ a = some (.d (ek k))) (o : AS.ev ⟨sl,hp,nx⟩ y = some (.d (ev v))) (hb : find hp n = some (.mp (mrow ek ev es))) (j : Yj (ev v) = true)
    (h : OpsK P T base ops dr l ⟨sl,repl hp n (.mp (mrow ek ev (Ul k v es))),nx⟩ K) (s : okO dr l.length ⟨sl,hp,nx⟩ (.mapUpdate mt m a y) ⟨sl,repl hp n (.mp (mrow ek ev (Ul k v es))),nx⟩ = true:=by rfl) : OpsK P T base ops dr (⟨none,.mapUpdate mt m a y,ty,pos,af,g⟩::l) ⟨sl,hp,nx⟩ K:=by
  refine Yf f (v:=.dead) (st1:=⟨sl,repl hp n (.mp (mrow ek ev (Ul k v es))),nx⟩) ?_ h s
  simp only [opFn,q,r,p,o,b,AS.blk,hb,qku c,j,and_self,if_true,qtm c,Option.map_some]
  rfl
end
end Go.Am
