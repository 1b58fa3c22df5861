/- Lf3 Lf4 Lf5 Lf6 -/
import Derived.Test.YtbknppciefodiaaGreatK6
namespace Go.Am
open Go
theorem RunK.toEv {P : Program} {T : Tab} {base : Nat} {c : Code} {st : AS} {K : Ex→AS→Prop} (h : RunK P T base [c] st K) : ∃ ex st',Kz P T base c st ex st'∧K ex st':=q53 h
section
variable {P : Program} {T : Tab} {base : Nat} {ops : Array Oper} {l : List Oper} {sl : List (Nat × V)} {hp : List (Nat × Blk)} {nx : Nat} {K : AS→Prop} {ty : TypeId} {pos : String} {af : Array Edge} {dst : Option Tmp} {g : Option (Nat × Bool)}
theorem q3p {β : Type} {c : Call} {f : FuncId} {fn : Func} {k : Code} (d : List V) (E : β→Prop) (S : β→AS) (s : Qw ops ⟨sl,hp,nx⟩ ⟨dst,.call c,ty,pos,af,g⟩ = some true) (y : callee ⟨sl,hp,nx⟩ c = some (f,d))
    (p : P.funcs[f]? = some fn) (hb : fn.body = some k) (a : (fn.name == "runtime.NumGoroutine") = false) (m : codeOk fn.ntmps k = true) (n : Nat.ble d.length fn.ntmps = true)
    (h : RunK P T nx [k] ⟨Y8 0 d,hp,nx⟩ (fun ex st'=>(ex = .nor∨ex = .ret)∧∃ v,resV T st' fn.results.toList = some v∧∃ b,E b∧WkE base ((⟨sl,st'.hp,st'.nx⟩ : AS).putD dst v) (S b)))
    (u : ∀ b,E b→OpsK P T base ops none l (S b) K) : OpsK P T base ops none (⟨dst,.call c,ty,pos,af,g⟩::l) ⟨sl,hp,nx⟩ K:=by
  obtain ⟨ex,st',e,q,v,r,b,j,t⟩:=h.toEv;obtain ⟨st2,o,x⟩:=u b j;obtain ⟨ρ,fz,ph,w⟩:=t;exact ⟨st2,.callS s rfl y (.mk p hb a m (by simpa using n) e q r) (.wk w o),x⟩
theorem q5r {β : Type} {c : Call} {gf : Operand} {n : Nat} {t : List V} {s : List (Nat × V)} {f : List Tmp} {assign body A B : Code} (E : β→Prop) (S : β→AS) (hA : assign = A) (hB : body = B) (hg : Qw ops ⟨sl,hp,nx⟩ ⟨dst,.call c,ty,pos,af,g⟩ = some true)
    (m : c.callee = .value gf) (r : AS.ev ⟨sl,hp,nx⟩ gf = some (.yld n)) (q : evL (AS.ev ⟨sl,hp,nx⟩) c.args.toList = some t) (hb : find hp n = some (.loop s f A B .ready none)) (hl : f.length = t.length)
    (h : RunK P T nx [assign] ⟨q1y s f t,hp,nx⟩ (fun ex st1=>ex = .nor∧∃ z,find st1.hp n = some (.loop z f A B .ready none)∧
      RunK P T nx [body] (st1.setBlk n (.loop z f A B .busy none)) (fun ex st2=>∃ j,find st2.hp n = some (.loop j f A B .busy none)∧match ex with
        | .nor=>∃ b,E b∧WkE base ((⟨sl,repl st2.hp n (.loop j f A B .ready none),st2.nx⟩ : AS).putD dst (.d (.bool true))) (S b)
        | ex=>OpsK P T base ops none l ((⟨sl,repl st2.hp n (.loop j f A B .done ex.code),st2.nx⟩ : AS).putD dst (.d (.bool false))) K)))
    (hr : ∀ b,E b→OpsK P T base ops none l (S b) K) : OpsK P T base ops none (⟨dst,.call c,ty,pos,af,g⟩::l) ⟨sl,hp,nx⟩ K:=by
  subst hA hB;obtain ⟨ah,st1,e1,rfl,z,v,k⟩:=h.toEv;obtain ⟨ex,st2,e2,j,x,y⟩:=k.toEv
  have key : ∀ a,Ko P T base ops none l ((⟨sl,repl st2.hp n (.loop j f assign body (if ex = .nor then .ready else .done) ex.code),st2.nx⟩ : AS).putD dst (.d (.bool (decide (ex = .nor))))) a→Ko P T base ops none (⟨dst,.call c,ty,pos,af,g⟩::l) ⟨sl,hp,nx⟩ a:=
    fun a h3=>.callY hg rfl m r q hb hl e1 v e2 x h3
  cases ex with
  | nor=>
    obtain ⟨b,u,ρ,fz,ph,w⟩:=y;obtain ⟨a,o,p⟩:=hr b u;exact ⟨a,key a (.wk w o),p⟩
  | exit i=>
    obtain ⟨a,o,p⟩:=y;exact ⟨a,key a o,p⟩
  | ret=>
    obtain ⟨a,o,p⟩:=y;exact ⟨a,key a o,p⟩
end
section
variable {P : Program} {T : Tab} {base : Nat} {cs : List Code} {sl : List (Nat × V)} {hp : List (Nat × Blk)} {nx : Nat} {K : Ex→AS→Prop}
def qee (P : Program) (T : Tab) (base : Nat) (cs : List Code) (K : Ex→AS→Prop) : Ex→AS→Prop:=qbi (fun st'=>RunK P T base cs st' K) K
theorem q6m {l : Operand} {m : Array Tmp} {assign body : Code} {f : FuncId} {fn : Func} {j : Code} (a : List V)
    (u : AS.ev ⟨sl,hp,nx⟩ l = some (.fn f a)∨∃ ds,AS.ev ⟨sl,hp,nx⟩ l = some (.d (.fn f ds))∧a = ds.map .d)
    (q : P.funcs[f]? = some fn) (hb : fn.body = some j) (c : (fn.name == "runtime.NumGoroutine") = false) (k : codeOk fn.ntmps j = true) (o : Nat.ble (a.length + 1) fn.ntmps = true)
    (h : ∀ A B,assign = A→body = B→RunK P T (nx + 1) [j] ⟨Y8 0 (.yld nx::a),(nx,.loop sl m.toList A B .ready none)::hp,nx + 1⟩ (fun g b=>(g = .nor∨g = .ret)∧∃ v,resV T b fn.results.toList = some v∧
      ∃ (s : List (Nat × V)) (ls : LoopState) (ex : Ex),find b.hp nx = some (.loop s m.toList A B ls ex.code)∧ls≠.busy∧qee P T base cs K ex ⟨sl,repl b.hp nx .dead,b.nx⟩)) :
    RunK P T base (.rangeFunc l m assign body::cs) ⟨sl,hp,nx⟩ K:=by
  obtain ⟨g,b,e,r,v,t,s,ls,ex,n,p,w⟩:=(h assign body rfl rfl).toEv;exact ⟨ex,_,.rangeF (pe:=ex.code) u (.mk q hb c k (by simpa using o) e r t) n p rfl,w⟩
theorem q4z {st : AS} (h : RunK P T base cs st K) : qee P T base cs K .nor st:=h
theorem qbt {st : AS} (h : K .ret st) : qee P T base cs K .ret st:=h
end
inductive WvS (st : AS) (ρ : Nat→Nat) (fz ph : List Nat) (nx : Nat) : List (Nat × V)→List (Nat × V)→Prop
  | nil {s : List (Nat × V)} : WvS st ρ fz ph nx s []
  | cons {s s' : List (Nat × V)} {t : Nat} {v v' : V} : find s t = some v→Wv st ρ fz ph nx v v'→WvS st ρ fz ph nx s s'→WvS st ρ fz ph nx s ((t,v')::s')
theorem q14e {st : AS} {ρ : Nat→Nat} {fz ph : List Nat} {nx : Nat} {s b : List (Nat × V)} {f : List Tmp} {as d : Code} {c : LoopState} {pe : Option Code} (h : WvS st ρ fz ph nx s b) : Wb st ρ fz ph nx (.loop s f as d c pe) (.loop b f as d c pe):=by
  refine .loop fun t g a=>?_
  induction h with
  | nil=>simp [find] at a
  | @cons b t' v v'' h1 h2 _ ih=>
    simp only [find] at a
    cases hb : Nat.beq t' t with
    | true=>rw [hb] at a;cases a;obtain rfl:=Nat.eq_of_beq_eq_true hb;exact ⟨v,h1,h2⟩
    | false=>rw [hb] at a;exact ih a
theorem qob {α : Type} {enc : α→List DV} {es : Nat} (a : ∀ x,(enc x).length = es) {xs : List α} {k : Nat} {v : α} (h : xs[k]? = some v) : sub (xs.flatMap enc) (k * es) es = some (enc v):=by
  induction xs generalizing k with
  | nil=>simp at h
  | cons x xs ih=>
    cases k with
    | zero=>
      simp at h;subst h;have:=a x;simp [sub,List.flatMap_cons,this]
    | succ k=>
      have c : xs[k]? = some v:=by simpa using h
      have:=ih c;unfold sub at this ⊢;have d:=a x;have f : (k + 1) * es = (enc x).length + k * es:=by rw [Nat.succ_mul,d];omega
      rw [List.flatMap_cons,f];split at this
      · rename_i b;rw [qr (by rw [List.length_append];omega),← List.drop_drop,List.drop_left];exact this
      · cases this
theorem q12s {α : Type} {enc : α→List DV} {es : Nat} (a : ∀ x,(enc x).length = es) {xs : List α} {k : Nat} {v : α} (h : k < xs.length) : splice (xs.flatMap enc) (k * es) (enc v) = (xs.set k v).flatMap enc:=by
  induction xs generalizing k with
  | nil=>simp at h
  | cons x xs ih=>
    have b:=a x;have c:=a v
    cases k with
    | zero=>
      simp only [splice,Nat.zero_mul,List.take_zero,List.nil_append,Nat.zero_add,List.flatMap_cons,List.set_cons_zero];rw [c,← b,List.drop_left]
    | succ k=>
      have:=ih (k:=k) (by simpa using h);simp only [splice] at this ⊢;have d : (k + 1) * es = (enc x).length + k * es:=by rw [Nat.succ_mul,b];omega
      rw [List.flatMap_cons,List.set_cons_succ,List.flatMap_cons,d,← this];rw [List.take_length_add_append,show (enc x).length + k * es + (enc v).length = (enc x).length + (k * es + (enc v).length) by omega,← List.drop_drop,List.drop_left];simp [List.append_assoc]
theorem qry {α : Type} {enc : α→List DV} {es : Nat} (a : ∀ x,(enc x).length = es) (xs : List α) : (xs.flatMap enc).length = xs.length * es:=by
  induction xs with
  | nil=>simp
  | cons x xs ih=>rw [List.flatMap_cons,List.length_append,a,ih,List.length_cons,Nat.succ_mul];omega
def idxA {α : Type} (n : Nat) (xs : List α) (i : Int) : Option α:=if 0≤i∧i < n then xs[i.toNat]? else none
def andI (k : IntKind) (x y : Int) : Int:=k.wrap (BitVec.ofInt k.bits x &&& BitVec.ofInt k.bits y).toNat
def xorI (k : IntKind) (x y : Int) : Int:=k.wrap (BitVec.ofInt k.bits x ^^^ BitVec.ofInt k.bits y).toNat
section
variable {P : Program} {T : Tab} {base : Nat} {ops : Array Oper} {dr : Dr} {l : List Oper} {sl : List (Nat × V)} {hp : List (Nat × Blk)} {nx : Nat} {K : AS→Prop} {ty : TypeId} {pos : String} {af : Array Edge} {t : Tmp} {g : Option (Nat × Bool)}
theorem q135 {α β : Type} (f : α→β) (cs : List α) (j n : Nat) : sub (cs.map f) j n = (sub cs j n).map (·.map f):=by
  unfold sub;simp only [List.length_map];split
  · simp [List.map_take,List.map_drop]
  · rfl
theorem qci {α : Type} {n : Nat} {xs : List α} {i : Int} {v : α} (h : idxA n xs i = some v) : 0≤i∧i < n∧xs[i.toNat]? = some v:=by
  unfold idxA at h;split at h
  · rename_i a;exact ⟨a.1,a.2,h⟩
  · cases h
theorem qu6 {α : Type} {x y : Operand} {a : TypeId} {i : TI} {k : IntKind} {n : Int} {enc : α→List DV} {v : α} (xs : List α) (w : V) (o : idxA i.len xs n = some v) (b : ∀ x,(enc x).length = i.esize) (p : Qw ops ⟨sl,hp,nx⟩ ⟨some t,.index a x y,ty,pos,af,g⟩ = some true) (f : T a = some i)
    (m : AS.ev ⟨sl,hp,nx⟩ x = some (.d (.agg (xs.flatMap enc)))) (s : AS.ev ⟨sl,hp,nx⟩ y = some (.d (.int k n))) (r : i.kind = .array) (q : pack i.eagg ((enc v).map .d) = some w)
    (h : OpsK P T base ops dr l ⟨(t,w)::sl,hp,nx⟩ K) : OpsK P T base ops dr (⟨some t,.index a x y,ty,pos,af,g⟩::l) ⟨sl,hp,nx⟩ K:=by
  obtain ⟨u,c,j⟩:=qci o;refine Ye p (v:=w) (st1:=⟨sl,hp,nx⟩) ?_ h (Jf rfl);simp only [opFn,f,m,s,r,agD];rw [qr ⟨u,c⟩,q135,qob b j];simp only [Option.map_some,q]
theorem qcu {α : Type} {x y : Operand} {a : TypeId} {i : TI} {k : IntKind} {n : Int} {m es : Nat} {v : α} {xs : List α} (j : idxA i.len xs n = some v) (o : Qw ops ⟨sl,hp,nx⟩ ⟨some t,.indexAddr a x y,ty,pos,af,g⟩ = some true) (c : T a = some i)
    (f : AS.ev ⟨sl,hp,nx⟩ x = some (.ref m es 0 0)) (q : AS.ev ⟨sl,hp,nx⟩ y = some (.d (.int k n))) (p : i.kind = .array)
    (h : OpsK P T base ops dr l ⟨(t,.ref m es 0 (n.toNat * i.esize))::sl,hp,nx⟩ K) : OpsK P T base ops dr (⟨some t,.indexAddr a x y,ty,pos,af,g⟩::l) ⟨sl,hp,nx⟩ K:=by
  obtain ⟨r,b,_⟩:=qci j;exact Ye o (v:=.ref m es 0 (n.toNat * i.esize)) (st1:=⟨sl,hp,nx⟩) (by simp [opFn,f,q,c,q3o,p,r,b]) h (Jf rfl)
theorem qgh {α : Type} {p : Operand} {a : TypeId} {i : TI} {m es sz ln : Nat} {n : Int} {xs : List α} {enc : α→List DV} {v : α} (w : V) (k : idxA ln xs n = some v) (b : ∀ x,(enc x).length = sz) (o : Qw ops ⟨sl,hp,nx⟩ ⟨some t,.load a p,ty,pos,af,g⟩ = some true) (c : T a = some i)
    (j : AS.ev ⟨sl,hp,nx⟩ p = some (.ref m es 0 (n.toNat * sz))) (hb : find hp m = some (.dat es [xs.flatMap enc])) (hs : sz = i.size) (q : (q1u i.agg (enc v)).map .d = some w)
    (h : OpsK P T base ops dr l ⟨(t,w)::sl,hp,nx⟩ K) (f : okF dr l.length (fp ⟨sl,hp,nx⟩ (.load a p)) = true:=by rfl) : OpsK P T base ops dr (⟨some t,.load a p,ty,pos,af,g⟩::l) ⟨sl,hp,nx⟩ K:=
  qlr o c j hb rfl (by rw [← hs];exact qob b (qci k).2.2) q h f
theorem quh {α : Type} {p x : Operand} {k : TypeId} {i : TI} {m es sz ln : Nat} {n : Int} {xs : List α} {enc : α→List DV} {v : α} (j : α) {u : V} (w : idxA ln xs n = some v) (a : ∀ x,(enc x).length = sz) (y : Qw ops ⟨sl,hp,nx⟩ ⟨none,.store k p x,ty,pos,af,g⟩ = some true) (r : T k = some i)
    (hp' : AS.ev ⟨sl,hp,nx⟩ p = some (.ref m es 0 (n.toNat * sz))) (t : AS.ev ⟨sl,hp,nx⟩ x = some u) (hb : find hp m = some (.dat es [xs.flatMap enc])) (hs : sz = i.size) (q : cellsOf u = (enc j).map .d) (z : (enc j).all Yi = true)
    (h : OpsK P T base ops dr l ⟨sl,repl hp m (.dat es [(xs.set n.toNat j).flatMap enc]),nx⟩ K) (s : okO dr l.length ⟨sl,hp,nx⟩ (.store k p x) ⟨sl,repl hp m (.dat es [(xs.set n.toNat j).flatMap enc]),nx⟩ = true:=by rfl) : OpsK P T base ops dr (⟨none,.store k p x,ty,pos,af,g⟩::l) ⟨sl,hp,nx⟩ K:=by
  have c:=Kd (qci w).2.2;refine Ye y (v:=.dead) (st1:=⟨sl,repl hp m (.dat es [(xs.set n.toNat j).flatMap enc]),nx⟩) ?_ h s;have b : (cellsOf u).all Kl = true:=by rw [q,List.all_map];exact z
  have f : (cellsOf u).length = i.size:=by rw [q,List.length_map,a];exact hs
  have o : n.toNat * sz + i.size≤(xs.flatMap enc).length:=by
    rw [qry a,← hs,← Nat.succ_mul];exact Nat.mul_le_mul_right _ c
  simp only [opFn,r,hp',t,Jl,AS.blk,hb,Nat.beq_refl];rw [qp (by simp [b,f])];simp only [List.getElem?_cons_zero];rw [qr o,q,qef];simp only [q12s a c,AS.setBlk,List.set_cons_zero];rfl
theorem qe7 {α : Type} {st : AS} {ρ : Nat→Nat} {fz ph : List Nat} {nx n es : Nat} {w : Nat × Nat} {ys : List α} {enc : α→List DV} (a : w.1 + w.2≤ys.length) (hb : st.blk n = some (.dat es (ys.map enc))) (b : n∈fz) : Wv st ρ fz ph nx (.hs n es w.1 w.2) (.d (.sl es (((ys.drop w.1).take w.2).map enc))):=
  .frz hb b (by simpa using a) (by rw [List.map_take,List.map_drop]) rfl
theorem qpe {hp : List (Nat × Blk)} {a : List V} {ds C : List DV} (h : Kr hp a = some ds) : Kr hp (a ++ C.map .d) = some (ds ++ C):=by
  induction a generalizing ds with
  | nil=>
    simp [Kr] at h;subst h
    induction C with
    | nil=>rfl
    | cons c C ih=>
      simp only [List.nil_append,List.map_cons] at ih ⊢;simp only [Kr];rw [show toD hp 8 (.d c) = some c from rfl,ih]
  | cons v a ih=>
    simp only [Kr] at h;split at h <;> simp at h
    rename_i x l b f;subst h;simp only [List.cons_append,Kr,b,ih f]
theorem qrz {a : List V} {C : List DV} : fpC (a ++ C.map .d) = fpC a:=by
  unfold fpC;have : (C.map V.d).all V.isD = true:=by rw [List.all_map];simp [V.isD]
  rw [List.all_append,this,Bool.and_true]
theorem Yk {c : Call} {f : FuncId} {C ds : List DV} {r : DV} (a : List V) (b : Pure P T f (ds ++ C) r) (j : Qw ops ⟨sl,hp,nx⟩ ⟨some t,.call c,ty,pos,af,g⟩ = some true) (m : callee ⟨sl,hp,nx⟩ c = some (f,a ++ C.map .d)) (hd : Kr hp a = some ds)
    (hs : (a.all V.isD = true∨r.scalar = true)) (h : OpsK P T base ops dr l ⟨(t,.d r)::sl,hp,nx⟩ K) (k : okF dr l.length (fpC a) = true:=by rfl) : OpsK P T base ops dr (⟨some t,.call c,ty,pos,af,g⟩::l) ⟨sl,hp,nx⟩ K:=by
  refine qlq j rfl m (qpe hd) ?_ b h (by rw [qrz];exact k);rcases hs with hs | hs
  · left;rw [List.all_append,hs,Bool.true_and,List.all_map];simp [V.isD]
  · exact .inr hs
end
end Go.Am
namespace Go.Am
open Go
theorem Ym {base : Nat} {st st' : AS} (l : List (Nat × Nat)) (fz ph : List Nat) (g : wkOk base l fz ph st'.hp st'.nx = true) (hs : WkL st (rho l) fz ph st'.nx st'.sl) (u : WkH st (rho l) fz ph st'.nx st'.hp) : Wk base (rho l) fz ph st st':=by
  simp only [wkOk,Bool.and_eq_true,Nat.ble_eq,List.all_eq_true] at g;obtain ⟨⟨⟨⟨q,r⟩,v⟩,s⟩,o⟩:=g;refine ⟨?_,?_,?_,?_,?_,q,?_,?_⟩
  · exact fun t y h=>hs.get (J2 h)
  · exact fun n x h=>u.get (J2 h)
  · intro n m b c a k d j p;have:=o _ (J2 a);simp only [Bool.or_eq_true,Bool.and_eq_true,q5n,List.all_eq_true,Bool.not_eq_true'] at this;rcases this with h | h
    · exact absurd h d
    · have:=h.2 _ (J2 k);rcases this with (f | f) | f
      · exact absurd f j
      · rw [p] at f;simp at f
      · exact Nat.eq_of_beq_eq_true f
  · intro n b a d w;have:=o _ (J2 a);simp only [Bool.or_eq_true,Bool.and_eq_true,q5n,Bool.not_eq_true'] at this;rcases this with h | h
    · exact absurd h d
    · rw [q5n.2 w] at h;exact absurd h.1 qe
  · intro n a;unfold rho;split
    · rename_i m k;have:=r _ (J2 k);simp at this;omega
    · rfl
  · exact fun n a=>v n a
  · exact fun n a=>s n a
def q8i (l l3 : List (Nat × Nat)) (k k' nx nxN : Nat) : Bool:=
  (List.range k).all (fun i=>Nat.blt (rho l i) nx && Nat.beq (rho l3 (rho l i)) i) && (List.range nx).all (fun m=>(Nat.blt (rho l3 m) k && Nat.beq (rho l (rho l3 m)) m) || Nat.ble k' (rho l3 m)) && Nat.ble nx nxN
def OldL (l : List (Nat × Nat)) (k : Nat) (hp hpR : List (Nat × Blk)) : List (Nat × Blk)→Prop
  | []=>True
  | (m,b)::r=>(find hpR m = some b∨(find hp m = some b∧(List.range k).all (fun i=>!(Nat.beq (rho l i) m)) = true))∧OldL l k hp hpR r
theorem OldL.get {l : List (Nat × Nat)} {k : Nat} {hp a : List (Nat × Blk)} : ∀ {r : List (Nat × Blk)},OldL l k hp a r→∀ m b,(m,b)∈r→find a m = some b∨(find hp m = some b∧∀ i,i < k→rho l i≠m)
  | [],_,m,b,h=>by cases h
  | (m',b')::r,h,m,b,c=>by
    rcases List.mem_cons.1 c with e | c
    · cases e
      refine h.1.imp (fun x=>x) fun ⟨d,h2⟩=>⟨d,fun i hi e=>?_⟩
      have:=List.all_eq_true.1 h2 i (List.mem_range.2 hi)
      rw [e] at this;simp at this
    · exact OldL.get h.2 m b c
section
variable {P : Program} {T : Tab} {base : Nat} {ops : Array Oper} {l : List Oper} {sl : List (Nat × V)} {hp : List (Nat × Blk)} {nx : Nat} {K : AS→Prop} {ty : TypeId} {pos : String} {af : Array Edge} {dst : Option Tmp} {g : Option (Nat × Bool)}
theorem U3 {c : Call} {f : FuncId} {j : List V} {hp0 o : List (Nat × Blk)} {k u : Nat} {vR : V} (t x : List (Nat × Nat)) (r : List V) (y : V) (a q : List (Nat × Blk)) (d : Nat) (z : K9 P T f j hp0 k vR o u) (hg : Qw ops ⟨sl,hp,nx⟩ ⟨dst,.call c,ty,pos,af,g⟩ = some true) (hc : callee ⟨sl,hp,nx⟩ c = some (f,r)) (p : r.length = j.length)
    (s : Wk 0 (rho t) [] [] ⟨Y8 0 r,hp,nx⟩ ⟨Y8 0 j,hp0,k⟩) (v : Wk 0 (rho x) [] [] ⟨[(0,vR)],o,u⟩ ⟨[(0,y)],a,d⟩) (hb : q8i t x k u nx d = true) (hold : OldL t k hp a q)
    (h : OpsK P T base ops none l ((⟨sl,q,d⟩ : AS).putD dst y) K) : OpsK P T base ops none (⟨dst,.call c,ty,pos,af,g⟩::l) ⟨sl,hp,nx⟩ K:=by
  obtain ⟨st2,e2,k2⟩:=h;refine ⟨st2,.callF hg rfl hc p s z v ⟨?_,?_,?_,?_,?_⟩ e2,k2⟩
  · intro i hi;simp only [q8i,Bool.and_eq_true,List.all_eq_true,List.mem_range] at hb;have:=hb.1.1 i hi;exact ⟨by simpa [Nat.blt_eq] using this.1,Nat.eq_of_beq_eq_true this.2⟩
  · intro m w;simp only [q8i,Bool.and_eq_true,List.all_eq_true,List.mem_range,Bool.or_eq_true] at hb;rcases hb.1.2 m w with n | n
    · exact .inl ⟨by simpa [Nat.blt_eq] using n.1,Nat.eq_of_beq_eq_true n.2⟩
    · exact .inr (by simpa using n)
  · intro m w;cases w
  · exact fun m b n=>hold.get m b (J2 n)
  · simp only [q8i,Bool.and_eq_true] at hb;simpa using hb.2
end
theorem Ks {P : Program} {T : Tab} {f : FuncId} {fn : Func} {c : Code} {d : List V} {hp b : List (Nat × Blk)} {nx j : Nat} {vR : V} (l : P.funcs[f]? = some fn) (hb : fn.body = some c) (a : (fn.name == "runtime.NumGoroutine") = false) (g : codeOk fn.ntmps c = true) (k : Nat.ble d.length fn.ntmps = true)
    (h : RunK P T nx [c] ⟨Y8 0 d,hp,nx⟩ (fun ex st=>(ex = .nor∨ex = .ret)∧∃ v,resV T st fn.results.toList = some v∧WkE nx ⟨[(0,v)],st.hp,st.nx⟩ ⟨[(0,vR)],b,j⟩)) : K9 P T f d hp nx vR b j:=by
  obtain ⟨ex,st',e,m,v,n,ρ,fz,ph,w⟩:=q53 h;exact .wk (.mk l hb a g (by simpa using k) e m n) w
def shlK (k : IntKind) (x y : Int) : Option Int:=if y < 0 then none else some (k.wrap (x * 2 ^ (min y.toNat k.bits)))
section
variable {P : Program} {T : Tab} {base : Nat} {ops : Array Oper} {dr : Dr} {l : List Oper} {sl : List (Nat × V)} {hp : List (Nat × Blk)} {nx : Nat} {K : AS→Prop} {ty : TypeId} {pos : String} {af : Array Edge} {t : Tmp} {g : Option (Nat × Bool)}
theorem quf {x y : Operand} {j f : TypeId} {a b r : Int} {k o : IntKind} (c : shlK k a b = some r) (n : Qw ops ⟨sl,hp,nx⟩ ⟨some t,.binOp .shl j x y f,ty,pos,af,g⟩ = some true) (m : AS.ev ⟨sl,hp,nx⟩ x = some (.d (.int k a))) (p : AS.ev ⟨sl,hp,nx⟩ y = some (.d (.int o b)))
    (h : OpsK P T base ops dr l ⟨(t,.d (.int k r))::sl,hp,nx⟩ K) : OpsK P T base ops dr (⟨some t,.binOp .shl j x y f,ty,pos,af,g⟩::l) ⟨sl,hp,nx⟩ K:=by
  unfold shlK at c;split at c
  · cases c
  · rename_i q;cases c;exact Ye n (v:=.d (.int k (k.wrap (a * 2 ^ (min b.toNat k.bits))))) (st1:=⟨sl,hp,nx⟩) (by simp [opFn,m,p,binD,q9t,q]) h (Jf rfl)
end
def K4 (n m : Nat) : Option Unit:=if n = m then some () else none
theorem Kn {n m : Nat} {u : Unit} (h : K4 n m = some u) : n = m:=by
  unfold K4 at h;split at h
  · assumption
  · cases h
def q4p (s : ByteArray) (i : Int) : Option Int:=(if 0≤i then s[i.toNat]? else none).map fun b=>(b.toNat : Int)
theorem qu7 {P : Program} {T : Tab} {base : Nat} {ops : Array Oper} {dr : Dr} {l : List Oper} {sl : List (Nat × V)} {hp : List (Nat × Blk)} {nx : Nat} {K : AS→Prop} {ty : TypeId} {pos : String} {af : Array Edge} {t : Tmp} {g : Option (Nat × Bool)} {x y : Operand} {a : TypeId} {i : TI} {k : IntKind} {n v : Int} (s : ByteArray) (c : q4p s n = some v) (m : Qw ops ⟨sl,hp,nx⟩ ⟨some t,.index a x y,ty,pos,af,g⟩ = some true) (f : T a = some i)
    (j : AS.ev ⟨sl,hp,nx⟩ x = some (.d (.str s))) (p : AS.ev ⟨sl,hp,nx⟩ y = some (.d (.int k n))) (o : i.kind = .str)
    (h : OpsK P T base ops dr l ⟨(t,.d (.int .u8 v))::sl,hp,nx⟩ K) : OpsK P T base ops dr (⟨some t,.index a x y,ty,pos,af,g⟩::l) ⟨sl,hp,nx⟩ K:=by
  unfold q4p at c;rw [Y5] at c;obtain ⟨b,hb,rfl⟩:=c;refine Ye m (v:=.d (.int .u8 b.toNat)) (st1:=⟨sl,hp,nx⟩) ?_ h (Jf rfl);simp only [opFn,f,j,p,o,hb,Option.map_some]
open Classical in
noncomputable def lim {α : Type} (f : Nat→Option α) : Option α:=if h : ∃ r n,f n = some r then some h.choose else none
theorem qfy {α : Type} {f : Nat→Option α} {r : α} (h : lim f = some r) : ∃ n,f n = some r:=by
  unfold lim at h;split at h
  · rename_i a;cases h;exact a.choose_spec
  · cases h
theorem qt8 {α : Type} {f : Nat→Option α} {n : Nat} {r : α} (h : f n = some r) : ∃ a,lim f = some a:=by
  unfold lim;rw [dif_pos ⟨r,n,h⟩];exact ⟨_,rfl⟩
theorem Yr {P : Program} {T : Tab} {base : Nat} {c : Code} {cs : List Code} {st : AS} {K : Ex→AS→Prop} (h : RunK P T base (c::.loop c::cs) st K) : RunK P T base (.loop c::cs) st K:=by
  obtain ⟨ex,st1,d,a⟩:=h
  cases ex with
  | nor=>
    obtain ⟨b,st2,g,f⟩:=a;exact ⟨b,st2,.loopN d g,f⟩
  | exit i=>exact ⟨_,_,.loopX d qe,a⟩
  | ret=>exact ⟨_,_,.loopX d qe,a⟩
def idxW {α : Type} (xs : List α) (w : Nat × Nat) (k : Int) : Option α:=if 0≤k∧k < w.2 then xs[w.1 + k.toNat]? else none
theorem qfs {α : Type} {xs : List α} {w : Nat × Nat} {k : Int} {v : α} (h : idxW xs w k = some v) : idx xs ((w.1 : Int) + k) = some v:=by
  unfold idxW at h;split at h
  · rename_i a;unfold idx;rw [qr q6];rw [show ((w.1 : Int) + k).toNat = w.1 + k.toNat by omega];exact h
  · cases h
def q17 (n : Nat) (w : Nat × Nat) : Option Unit:=if w.1 + w.2≤n then some () else none
theorem qe5 {n : Nat} {w : Nat × Nat} {u : Unit} (h : q17 n w = some u) : w.1 + w.2≤n:=by
  unfold q17 at h;split at h
  · assumption
  · cases h
def clrw {α : Type} (xs : List α) (w : Nat × Nat) (z : α) : List α:=splice xs w.1 (List.replicate w.2 z)
theorem qiy {α : Type} {xs : List α} {w : Nat × Nat} {z : α} (h : w.1 + w.2≤xs.length) : (clrw xs w z).length = xs.length:=by
  unfold clrw splice;simp;omega
section
variable {P : Program} {T : Tab} {base : Nat} {ops : Array Oper} {dr : Dr} {l : List Oper} {sl : List (Nat × V)} {hp : List (Nat × Blk)} {nx : Nat} {K : AS→Prop} {ty : TypeId} {pos : String} {af : Array Edge} {t : Tmp} {g : Option (Nat × Bool)}
theorem qgg {α : Type} {x y : Operand} {a : TypeId} {i : TI} {k : IntKind} {n : Int} {m es : Nat} {xs : List α} {w : Nat × Nat} {v : α} (b : idxW xs w n = some v) (p : Qw ops ⟨sl,hp,nx⟩ ⟨some t,.indexAddr a x y,ty,pos,af,g⟩ = some true) (j : T a = some i)
    (o : AS.ev ⟨sl,hp,nx⟩ x = some (.hs m es w.1 w.2)) (r : AS.ev ⟨sl,hp,nx⟩ y = some (.d (.int k n))) (q : i.kind = .slice) (f : es = i.esize)
    (h : OpsK P T base ops dr l ⟨(t,.ref m es ((w.1 : Int) + n).toNat 0)::sl,hp,nx⟩ K) : OpsK P T base ops dr (⟨some t,.indexAddr a x y,ty,pos,af,g⟩::l) ⟨sl,hp,nx⟩ K:=by
  have c : 0≤n∧n < w.2:=by
    unfold idxW at b;split at b
    · assumption
    · cases b
  refine qu3 p j o r q f c.1 c.2 ?_;rw [show ((w.1 : Int) + n).toNat = w.1 + n.toNat by omega] at h;exact h
theorem qu1 {α : Type} {x : Operand} {a : TypeId} {i : TI} {n es : Nat} {xs : List α} {enc : α→List DV} (z : α) {w : Nat × Nat} (o : w.1 + w.2≤xs.length) (m : Qw ops ⟨sl,hp,nx⟩ ⟨none,.call {callee:=.builtin .clear,args:=#[x],argTypes:=#[a]},ty,pos,af,g⟩ = some true) (c : T a = some i)
    (k : AS.ev ⟨sl,hp,nx⟩ x = some (.hs n es w.1 w.2)) (hb : find hp n = some (.dat es (xs.map enc))) (p : i.kind = .slice) (b : i.esize = es) (j : i.ezero = enc z)
    (h : OpsK P T base ops dr l ⟨sl,repl hp n (.dat es ((clrw xs w z).map enc)),nx⟩ K) (f : okO dr l.length ⟨sl,hp,nx⟩ (.call {callee:=.builtin .clear,args:=#[x],argTypes:=#[a]}) ⟨sl,repl hp n (.dat es ((clrw xs w z).map enc)),nx⟩ = true:=by rfl) :
    OpsK P T base ops dr (⟨none,.call {callee:=.builtin .clear,args:=#[x],argTypes:=#[a]},ty,pos,af,g⟩::l) ⟨sl,hp,nx⟩ K:=by
  subst b;refine Ye m (v:=.d (.tup [])) (st1:=⟨sl,repl hp n (.dat i.esize ((clrw xs w z).map enc)),nx⟩) ?_ h f;simp only [opFn,evL,k,Y9];simp only [List.getElem?_toArray,List.getElem?_cons_zero,c];rw [qr ⟨p,by simp [J1]⟩];simp only [Jy,AS.blk,hb];rw [qr ⟨by simpa using o,trivial⟩,j];simp [clrw,splice,AS.setBlk]
end
section
variable {P : Program} {T : Tab} {base : Nat} {ops : Array Oper} {dr : Dr} {l : List Oper} {sl : List (Nat × V)} {hp : List (Nat × Blk)} {nx : Nat} {K : AS→Prop} {ty : TypeId} {pos : String} {af : Array Edge} {t : Tmp} {g : Option (Nat × Bool)}
end
end Go.Am
namespace Go.Am
open Go
theorem J {α : Sort _} {a : α} : a = a:=rfl
abbrev q7 (n : Int) : DV:=.int .i64 n
abbrev q9 (n : Int) : V:=.d (.int .i64 n)
abbrev qz (b : Bool) : V:=.d (.bool b)
section
variable {P : Program} {T : Tab} {base : Nat} {ops : Array Oper} {dr : Dr} {l : List Oper} {sl : List (Nat × V)} {hp : List (Nat × Blk)} {nx : Nat} {K : AS→Prop} {ty : TypeId} {pos : String} {af : Array Edge} {t : Tmp} {g : Option (Nat × Bool)} {v : V}
theorem U {x : Operand} (a : (Qw ops ⟨sl,hp,nx⟩ ⟨some t,.move x,ty,pos,af,g⟩,AS.ev ⟨sl,hp,nx⟩ x) = (some true,some v))
    (h : OpsK P T base ops dr l ⟨(t,v)::sl,hp,nx⟩ K) : OpsK P T base ops dr (⟨some t,.move x,ty,pos,af,g⟩::l) ⟨sl,hp,nx⟩ K:=qgi (Prod.mk.inj a).1 (Prod.mk.inj a).2 h
theorem qc {x : Operand} (a : (Qw ops ⟨sl,hp,nx⟩ ⟨some t,.assign x,ty,pos,af,g⟩,AS.ev ⟨sl,hp,nx⟩ x) = (some true,some v))
    (h : OpsK P T base ops dr l ⟨(t,v)::sl,hp,nx⟩ K) : OpsK P T base ops dr (⟨some t,.assign x,ty,pos,af,g⟩::l) ⟨sl,hp,nx⟩ K:=qu0 (Prod.mk.inj a).1 (Prod.mk.inj a).2 h
theorem O {op : Op} (v : V) (a : (Qw ops ⟨sl,hp,nx⟩ ⟨some t,op,ty,pos,af,g⟩,opFn T ⟨sl,hp,nx⟩ op) = (some true,some (v,⟨sl,hp,nx⟩))) (h : OpsK P T base ops dr l ⟨(t,v)::sl,hp,nx⟩ K)
    (b : okO dr l.length ⟨sl,hp,nx⟩ (op) ⟨sl,hp,nx⟩ = true:=by rfl) : OpsK P T base ops dr (⟨some t,op,ty,pos,af,g⟩::l) ⟨sl,hp,nx⟩ K:=quj v (Prod.mk.inj a).1 (Prod.mk.inj a).2 h b
theorem Ql {op : Op} (n : Nat) (b : Blk) (a : (Qw ops ⟨sl,hp,nx⟩ ⟨none,op,ty,pos,af,g⟩,opFn T ⟨sl,hp,nx⟩ op) = (some true,some (.dead,⟨sl,repl hp n b,nx⟩))) (h : OpsK P T base ops dr l ⟨sl,repl hp n b,nx⟩ K) (c : okO dr l.length ⟨sl,hp,nx⟩ (op) ⟨sl,repl hp n b,nx⟩ = true:=by rfl) : OpsK P T base ops dr (⟨none,op,ty,pos,af,g⟩::l) ⟨sl,hp,nx⟩ K:=
  qui n b (Prod.mk.inj a).1 (Prod.mk.inj a).2 h c
theorem Qo {op : Op} (v : V) (b : Blk) (a : (Qw ops ⟨sl,hp,nx⟩ ⟨some t,op,ty,pos,af,g⟩,opFn T ⟨sl,hp,nx⟩ op) = (some true,some (v,⟨sl,(nx,b)::hp,nx + 1⟩))) (h : OpsK P T base ops dr l ⟨(t,v)::sl,(nx,b)::hp,nx + 1⟩ K) (c : okO dr l.length ⟨sl,hp,nx⟩ (op) ⟨sl,(nx,b)::hp,nx + 1⟩ = true:=by rfl) : OpsK P T base ops dr (⟨some t,op,ty,pos,af,g⟩::l) ⟨sl,hp,nx⟩ K:=
  quc v b (Prod.mk.inj a).1 (Prod.mk.inj a).2 h c
theorem q5q {α : Type} {x : Operand} {a : TypeId} {i : TI} {es : Nat} {xs : List α} {enc : α→List DV} (n : Int) (j : (xs.length : Int) = n) (c : Qw ops ⟨sl,hp,nx⟩ ⟨some t,.call {callee:=.builtin .len,args:=#[x],argTypes:=#[a]},ty,pos,af,g⟩ = some true) (f : T a = some i) (k : i.kind = .slice) (b : AS.ev ⟨sl,hp,nx⟩ x = some (.d (.sl es (xs.map enc))))
    (h : OpsK P T base ops dr l ⟨(t,.d (.int .i64 n))::sl,hp,nx⟩ K) : OpsK P T base ops dr (⟨some t,.call {callee:=.builtin .len,args:=#[x],argTypes:=#[a]},ty,pos,af,g⟩::l) ⟨sl,hp,nx⟩ K:=by
  subst j;exact qls c f k b h
theorem Qc {α : Type} {x y : Operand} {a : TypeId} {i : TI} {k : IntKind} {n : Int} {es : Nat} {xs : List α} {enc : α→List DV} {v : α} (o : idx xs n = some v)
    (b : (Qw ops ⟨sl,hp,nx⟩ ⟨some t,.indexAddr a x y,ty,pos,af,g⟩,T a,AS.ev ⟨sl,hp,nx⟩ x,AS.ev ⟨sl,hp,nx⟩ y,i.kind,es) = (some true,some i,some (.d (.sl es (xs.map enc))),some (.d (.int k n)),.slice,i.esize))
    (h : OpsK P T base ops dr l ⟨(t,.dref (enc v) 0)::sl,hp,nx⟩ K) : OpsK P T base ops dr (⟨some t,.indexAddr a x y,ty,pos,af,g⟩::l) ⟨sl,hp,nx⟩ K:=by
  simp only [Prod.mk.injEq] at b;obtain ⟨c,j,q,f,p,m⟩:=b;exact qu5 o c j q f p m h
theorem Q0 {α : Type} {x y : Operand} {a : TypeId} {i : TI} {k : IntKind} {n : Int} {m es len : Nat} {xs : List α} {v : α} (q : idx xs n = some v) (j : len = xs.length)
    (b : (Qw ops ⟨sl,hp,nx⟩ ⟨some t,.indexAddr a x y,ty,pos,af,g⟩,T a,AS.ev ⟨sl,hp,nx⟩ x,AS.ev ⟨sl,hp,nx⟩ y,i.kind,es) = (some true,some i,some (.hs m es 0 len),some (.d (.int k n)),.slice,i.esize))
    (h : OpsK P T base ops dr l ⟨(t,.ref m es n.toNat 0)::sl,hp,nx⟩ K) : OpsK P T base ops dr (⟨some t,.indexAddr a x y,ty,pos,af,g⟩::l) ⟨sl,hp,nx⟩ K:=by
  simp only [Prod.mk.injEq] at b;obtain ⟨c,o,s,f,r,p⟩:=b;exact qu4 q j c o s f r p h
theorem Qd {α : Type} {p : Operand} {a : TypeId} {i : TI} {m es j : Nat} {n : Int} {xs : List α} {enc : α→List DV} {r : List DV} {v : α} (w : V) (s : idx xs n = some v)
    (b : (Qw ops ⟨sl,hp,nx⟩ ⟨some t,.load a p,ty,pos,af,g⟩,T a,AS.ev ⟨sl,hp,nx⟩ p,find hp m,sub (enc v) j i.size,(q1u i.agg r).map V.d) = (some true,some i,some (.ref m es n.toNat j),some (.dat es (xs.map enc)),some r,some w))
    (h : OpsK P T base ops dr l ⟨(t,w)::sl,hp,nx⟩ K) (f : okF dr l.length (fp ⟨sl,hp,nx⟩ (.load a p)) = true:=by rfl) : OpsK P T base ops dr (⟨some t,.load a p,ty,pos,af,g⟩::l) ⟨sl,hp,nx⟩ K:=by
  simp only [Prod.mk.injEq] at b;obtain ⟨c,o,x,k,u,q⟩:=b;exact qu9 w s c o x k u q h f
theorem Qm {α : Type} {x : Operand} {a : TypeId} {i : TI} {es : Nat} {xs : List α} {enc : α→List DV}
    (b : (Qw ops ⟨sl,hp,nx⟩ ⟨some t,.call {callee:=.builtin .len,args:=#[x],argTypes:=#[a]},ty,pos,af,g⟩,T a,i.kind,AS.ev ⟨sl,hp,nx⟩ x) = (some true,some i,.slice,some (.d (.sl es (xs.map enc)))))
    (h : OpsK P T base ops dr l ⟨(t,.d (.int .i64 (xs.length : Int)))::sl,hp,nx⟩ K) : OpsK P T base ops dr (⟨some t,.call {callee:=.builtin .len,args:=#[x],argTypes:=#[a]},ty,pos,af,g⟩::l) ⟨sl,hp,nx⟩ K:=by
  simp only [Prod.mk.injEq] at b;obtain ⟨c,k,j,f⟩:=b;exact qls c k j f h
theorem Q5 {c : Call} {f : FuncId} {ds : List DV} {r : DV} {a : List V} (b : Pure P T f ds r) (j : (Qw ops ⟨sl,hp,nx⟩ ⟨some t,.call c,ty,pos,af,g⟩,callee ⟨sl,hp,nx⟩ c,Kr hp a,a.all V.isD) = (some true,some (f,a),some ds,true))
    (h : OpsK P T base ops dr l ⟨(t,.d r)::sl,hp,nx⟩ K) (n : okF dr l.length (fpC a) = true:=by rfl) : OpsK P T base ops dr (⟨some t,.call c,ty,pos,af,g⟩::l) ⟨sl,hp,nx⟩ K:=by
  simp only [Prod.mk.injEq] at j;obtain ⟨k,p,o,m⟩:=j;exact q1t a b k p o (.inl m) h n
theorem Q6 {st : AS} {c : List ResultVar} {r : DV} (v : V) (a : (resV T st c,toD st.hp 8 v) = (some v,some r)) : (Ex.ret = .nor∨Ex.ret = .ret)∧∃ v b,resV T st c = some v∧toD st.hp 8 v = some b∧DLe b r:=by
  simp only [Prod.mk.injEq] at a;exact ⟨.inr rfl,v,r,a.1,a.2,.refl _⟩
theorem qd {id : Nat} {ops : Array Oper} {b : Code} {cs : List Code} {st : AS} {K : Ex→AS→Prop} (h : OpsK P T base ops none ops.toList st (fun st'=>RunK P T base (b::cs) st' K)) : RunK P T base (.seq (.region id ops false) b::cs) st K:=qf (qw h)
theorem qt {a ops : Array Oper} {id : Nat} {b : Code} {cs : List Code} {st : AS} {K : Ex→AS→Prop} (h : OpsK P T base ops none ops.toList st (fun st'=>RunK P T base (b::cs) st' K)) : OpsK P T base a dr [] st (fun st'=>RunK P T base (.seq (.region id ops false) b::cs) st' K):=qa (qf (qw h))
theorem qs {a : Array Oper} {cs : List Code} {st : AS} {K : Ex→AS→Prop} (h : K .ret st) : OpsK P T base a dr [] st (fun st'=>RunK P T base (.ret::cs) st' K):=qa (q13 h)
theorem qv {a : Array Oper} {st : AS} {K : Ex→AS→Prop} (h : K .nor st) : OpsK P T base a dr [] st (fun st'=>RunK P T base [] st' K):=qa (Qh h)
theorem Ka {dst : Option Tmp} {c : Call} {f : FuncId} {j : List V} {hp0 m : List (Nat × Blk)} {k s : Nat} {vR : V} (o p : List (Nat × Nat)) (q : List V) (t : V) (n : Nat) (a : List (Nat × Blk)) (b : Nat) (u : K9 P T f j hp0 k vR m s)
    (h : OpsK P T base ops none l ((⟨sl,a,b⟩ : AS).putD dst t) K)
    (y : Qw ops ⟨sl,hp,nx⟩ ⟨dst,.call c,ty,pos,af,g⟩ = some true:=by exact rfl) (w : callee ⟨sl,hp,nx⟩ c = some (f,q):=by exact rfl) (r : q.length = j.length:=by exact rfl)
    (x : wkOk 0 o [] [] hp0 k = true:=by exact rfl)
    (s1 : WkL ⟨Y8 0 q,hp,nx⟩ (rho o) [] [] k (Y8 0 j):=by
      repeat' first | exact trivial | refine And.intro (Exists.intro _ (And.intro rfl ?_)) ?_ | exact Wv.d (DLe.refl _) | exact Wv.ref rfl qx (ltd rfl) | exact Wv.mp rfl qx (ltd rfl) | exact Wv.hs rfl qx (ltd rfl) | exact Wv.d (DLe.nil _) | refine qe6 ?_ | refine qhs ?_ | refine q29 ?_ | refine WvL.cons ?_ ?_ | exact WvL.nil | exact Wv.dref _ _ | exact Wv.yld rfl qx (ltd rfl))
    (b1 : WkH ⟨Y8 0 q,hp,nx⟩ (rho o) [] [] k hp0:=by
      repeat' first | exact trivial | refine And.intro (And.intro (ltd rfl) (Or.inr (And.intro qx (Exists.intro _ (And.intro rfl ?_))))) ?_ | exact Wb.dat _ _ | exact Wb.mp _ | refine Jm ?_ | refine qhp ?_ | refine WvC.cons ?_ rfl ?_ | exact WvC.nil | exact Wv.d (DLe.refl _) | exact Wv.ref rfl qx (ltd rfl) | exact Wv.mp rfl qx (ltd rfl) | exact Wv.hs rfl qx (ltd rfl) | exact Wv.d (DLe.nil _))
    (z : wkOk 0 p [] [] (a.take n) b = true:=by exact rfl)
    (v : WkL ⟨[(0,vR)],m,s⟩ (rho p) [] [] b [(0,t)]:=by
      repeat' first | exact trivial | refine And.intro (Exists.intro _ (And.intro rfl ?_)) ?_ | exact Wv.d (DLe.refl _) | exact Wv.ref rfl qx (ltd rfl) | exact Wv.mp rfl qx (ltd rfl) | exact Wv.hs rfl qx (ltd rfl) | exact Wv.d (DLe.nil _) | refine qe6 ?_ | refine qhs ?_ | refine q29 ?_ | refine WvL.cons ?_ ?_ | exact WvL.nil | exact Wv.dref _ _ | exact Wv.yld rfl qx (ltd rfl))
    (b3 : WkH ⟨[(0,vR)],m,s⟩ (rho p) [] [] b (a.take n):=by
      repeat' first | exact trivial | refine And.intro (And.intro (ltd rfl) (Or.inr (And.intro qx (Exists.intro _ (And.intro rfl ?_))))) ?_ | exact Wb.dat _ _ | exact Wb.mp _ | refine Jm ?_ | refine qhp ?_ | refine WvC.cons ?_ rfl ?_ | exact WvC.nil | exact Wv.d (DLe.refl _) | exact Wv.ref rfl qx (ltd rfl) | exact Wv.mp rfl qx (ltd rfl) | exact Wv.hs rfl qx (ltd rfl) | exact Wv.d (DLe.nil _))
    (hb : q8i o p k s nx b = true:=by exact rfl)
    (hold : OldL o k hp (a.take n) a:=by repeat' first | exact trivial | refine And.intro (Or.inl rfl) ?_ | refine And.intro (Or.inr (And.intro rfl rfl)) ?_) :
    OpsK P T base ops none (⟨dst,.call c,ty,pos,af,g⟩::l) ⟨sl,hp,nx⟩ K:=
  U3 o p q t (a.take n) a b u y w r (Ym o [] [] x s1 b1) (Ym p [] [] z v b3) hb hold h
end
inductive WvR (st : AS) (ρ : Nat→Nat) (fz ph : List Nat) (nx : Nat) : List (List V)→List (List V)→Prop
  | nil : WvR st ρ fz ph nx [] []
  | cons {c d : List V} {cs ds : List (List V)} : WvC st ρ fz ph nx c d→WvR st ρ fz ph nx cs ds→WvR st ρ fz ph nx (c::cs) (d::ds)
theorem WvR.len {st : AS} {ρ : Nat→Nat} {fz ph : List Nat} {nx : Nat} {cs ds : List (List V)} (h : WvR st ρ fz ph nx cs ds) : cs.length = ds.length:=by
  induction h with
  | nil=>rfl
  | cons _ _ ih=>simp [ih]
theorem WvR.get {st : AS} {ρ : Nat→Nat} {fz ph : List Nat} {nx : Nat} {cs ds : List (List V)} (h : WvR st ρ fz ph nx cs ds) : ∀ (j : Nat) (c d : List V),cs[j]? = some c→ds[j]? = some d→WvC st ρ fz ph nx c d:=by
  induction h with
  | nil=>intro i x y h;simp at h
  | cons h1 _ ih=>
    intro i x y a b
    cases i with
    | zero=>simp at a b;subst a;subst b;exact h1
    | succ i=>exact ih i x y (by simpa using a) (by simpa using b)
theorem q14c {st : AS} {ρ : Nat→Nat} {fz ph : List Nat} {nx es : Nat} {cs ds : List (List V)} (h : WvR st ρ fz ph nx cs ds) : Wb st ρ fz ph nx (.cel es cs) (.cel es ds):=
  .cel h.len fun i x y a b=>⟨(h.get i x y a b).len,(h.get i x y a b).get⟩
theorem q14d {st : AS} {ρ : Nat→Nat} {fz ph : List Nat} {nx es : Nat} {cs : List (List DV)} {ds : List (List V)} (h : WvR st ρ fz ph nx (cs.map (·.map .d)) ds) : Wb st ρ fz ph nx (.dat es cs) (.cel es ds):=by
  refine .datcel (by simpa using h.len) fun i x y b f=>?_;have a:=h.get i (x.map .d) y (by simp [b]) f;refine ⟨by simpa using a.len,fun j c d g hd=>a.get j (.d c) d (by simp [g]) hd⟩
theorem wkA {base : Nat} {st st' : AS} (l : List (Nat × Nat)) (fz ph : List Nat) (a : wkOk base l fz ph st'.hp st'.nx = true:=by exact rfl)
    (hs : WkL st (rho l) fz ph st'.nx st'.sl:=by
      repeat' first | exact trivial | refine And.intro (Exists.intro _ (And.intro rfl ?_)) ?_ | exact Wv.d (DLe.refl _) | exact Wv.ref rfl qx (ltd rfl) | exact Wv.mp rfl qx (ltd rfl) | exact Wv.hs rfl qx (ltd rfl) | exact Wv.d (DLe.nil _) | exact Wv.nil qx (ltd rfl) | exact qp5 rfl rfl qx | refine qe6 ?_ | refine q14j ?_ | refine qhs ?_ | refine q14k ?_ | refine q29 ?_ | refine WvL.cons ?_ ?_ | exact WvL.nil | exact Wv.dref _ _ | exact Wv.yld rfl qx (ltd rfl))
    (b : WkH st (rho l) fz ph st'.nx st'.hp:=by
      repeat' first | exact trivial | refine And.intro (And.intro (ltd rfl) (Or.inr (And.intro qx (Exists.intro _ (And.intro rfl ?_))))) ?_ | refine And.intro (And.intro (ltd rfl) (Or.inl (And.intro qx (Exists.intro _ (And.intro qx rfl))))) ?_ | exact Wb.dat _ _ | exact Wb.mp _ | refine Jm ?_ | refine qhp ?_ | refine q14c ?_ | refine q14d ?_ | refine WvR.cons ?_ ?_ | exact WvR.nil | refine q14e ?_ | refine WvS.cons rfl ?_ ?_ | exact WvS.nil | refine WvC.cons ?_ rfl ?_ | exact WvC.nil | exact Wv.d (DLe.refl _) | exact Wv.ref rfl qx (ltd rfl) | exact Wv.mp rfl qx (ltd rfl) | exact Wv.hs rfl qx (ltd rfl) | exact Wv.d (DLe.nil _) | exact Wv.nil qx (ltd rfl) | exact qp5 rfl rfl qx | refine q29 ?_ | refine qe6 ?_ | refine WvL.cons ?_ ?_ | exact WvL.nil | exact Wv.yld rfl qx (ltd rfl)) : WkE base st st':=wkE l fz ph a hs b
theorem qq {st : AS} {ρ : Nat→Nat} {fz ph : List Nat} {nx t : Nat} {x : DV} (h : st.get t = some (.d x)) : ∃ v,st.get t = some v∧Wv st ρ fz ph nx v (.d x):=⟨_,h,.d (.refl _)⟩
theorem Qs {st : AS} {ρ : Nat→Nat} {fz ph : List Nat} {nx n es : Nat} {xs : List (List DV)} (a : Nat.blt n nx = true) (c : st.blk (ρ n) = some (.dat es xs)) (d : n ∉ ph:=by decide) :
    n < nx∧((n∈ph∧∃ e,e≠0∧(Blk.dat es xs) = .dat e [])∨(n ∉ ph∧∃ b,st.blk (ρ n) = some b∧Wb st ρ fz ph nx b (.dat es xs))):=⟨ltd a,.inr ⟨d,_,c,.dat _ _⟩⟩
abbrev q0 : Option (List Nat) × List Nat:=(some [],[])
abbrev qu (n : Nat) : Option (List Nat) × List Nat:=(some [n],[])
abbrev Qu (n : Nat) : Option (List Nat) × List Nat:=(some [n],[n])
end Go.Am
namespace Go.Am
open Go
inductive DLeR : List (List DV)→List (List DV)→Prop
  | nil : DLeR [] []
  | cons {x y : List DV} {xs ys : List (List DV)} : DLeL x y→DLeR xs ys→DLeR (x::xs) (y::ys)
structure q3d (ag : Bool) (ks : List (Option IntKind)) {α : Type} [DecidableEq α] (ek : α→DV) : Prop where
  agg : ∀ k,Zs (ek k) = ag
  len : ∀ k,(cellsD (ek k)).length = ks.length
  eq : ∀ a b,Ke ks (cellsD (ek a)) (cellsD (ek b)) = some (decide (a = b))
theorem key2 {k j : IntKind} : q3d true [some k,some j] (fun n : Int × Int=>DV.agg [.int k n.1,.int j n.2]):=
  ⟨fun _=>rfl,fun _=>rfl,fun a b=>by
    obtain ⟨c,f⟩:=a;obtain ⟨b1,d⟩:=b
    simp [cellsD,Ke,q2c];rfl⟩
section
variable {α β : Type} [DecidableEq α]
def Z9 (z : β) (k : α) : List (α × β)→β
  | []=>z
  | (a,v)::r=>if k = a then v else Z9 z k r
def qg9 (k : α) : List (α × β)→Bool
  | []=>false
  | (a,_)::r=>if k = a then true else qg9 k r
def Ul (k : α) (v : β) : List (α × β)→List (α × β)
  | []=>[(k,v)]
  | (a,w)::r=>if k = a then (k,v)::r else (a,w)::Ul k v r
abbrev mrow (ek : α→DV) (ev : β→DV) (es : List (α × β)) : List (DV × DV):=es.map fun e=>(ek e.1,ev e.2)
variable {ag : Bool} {ks : List (Option IntKind)} {ek : α→DV} {ev : β→DV}
def q2u (k : α) : List (α × β)→Option Nat
  | []=>none
  | (a,_)::r=>if k = a then some 0 else (q2u k r).map (· + 1)
theorem qg8 (b : q3d ag ks ek) (k : α) : ∀ es : List (α × β),Zm ag ks (ek k) (mrow ek ev es) = some (q2u k es)
  | []=>rfl
  | (a,v)::r=>by
    have c:=qg8 b k r
    simp only [mrow,List.map_cons,Zm,b.agg,and_self,if_true,b.eq,q2u] at c ⊢
    by_cases h : k = a
    · simp [h]
    · simp only [h,decide_false,if_false,c]
      cases q2u k r <;> rfl
theorem qkz (a : q3d ag ks ek) (k : α) : Uj ag ks (ek k) = true:=by
  simp [Uj,a.agg,a.len]
theorem qtn (b : q3d ag ks ek) (z : β) (k : α) (es : List (α × β)) : mget ag ks (ev z) (ek k) (mrow ek ev es) = some (ev (Z9 z k es),qg9 k es):=by
  unfold mget;rw [qg8 b]
  induction es with
  | nil=>rfl
  | cons e r ih=>
    obtain ⟨a,v⟩:=e;simp only [q2u,Z9,qg9];by_cases h : k = a
    · simp [h]
    · simp only [h,if_false]
      cases hp : q2u k r with
      | none=>rw [hp] at ih;simpa using ih
      | some j=>rw [hp] at ih;simpa using ih
theorem qts (b : q3d ag ks ek) (k : α) (v : β) (es : List (α × β)) : mput ag ks (ek k) (ev v) (mrow ek ev es) = some (mrow ek ev (Ul k v es)):=by
  unfold mput;rw [qg8 b]
  induction es with
  | nil=>rfl
  | cons e r ih=>
    obtain ⟨a,w⟩:=e;simp only [q2u,Ul];by_cases h : k = a
    · simp [h]
    · simp only [h,if_false]
      cases hp : q2u k r with
      | none=>rw [hp] at ih;simp at ih ⊢;exact ih
      | some j=>rw [hp] at ih;simp at ih ⊢;exact ih
end
section
variable {P : Program} {T : Tab} {base : Nat} {ops : Array Oper} {dr : Dr} {l : List Oper} {sl : List (Nat × V)} {hp : List (Nat × Blk)} {nx : Nat} {K : AS→Prop} {ty : TypeId} {pos : String} {af : Array Edge} {t : Tmp} {g : Option (Nat × Bool)}
variable {α β : Type} [DecidableEq α] {ek : α→DV} {ev : β→DV} {mt : TypeId} {i : TI} {ks : List (Option IntKind)} {n : Nat} {es : List (α × β)}
theorem qua {x a : Operand} (c : q3d i.eagg ks ek) (z : β) (k : α) (j : Qw ops ⟨sl,hp,nx⟩ ⟨some t,.lookup mt x a false,ty,pos,af,g⟩ = some true) (m : T mt = some i) (b : i.keys = some ks) (q : i.ezero = [ev z])
    (f : AS.ev ⟨sl,hp,nx⟩ x = some (.mp n)) (p : AS.ev ⟨sl,hp,nx⟩ a = some (.d (ek k))) (hb : find hp n = some (.mp (mrow ek ev es)))
    (h : OpsK P T base ops dr l ⟨(t,.d (ev (Z9 z k es)))::sl,hp,nx⟩ K) (o : okO dr l.length ⟨sl,hp,nx⟩ (.lookup mt x a false) ⟨sl,hp,nx⟩ = true:=by rfl) : OpsK P T base ops dr (⟨some t,.lookup mt x a false,ty,pos,af,g⟩::l) ⟨sl,hp,nx⟩ K:=by
  refine Ye j (v:=.d (ev (Z9 z k es))) (st1:=⟨sl,hp,nx⟩) ?_ h o;simp only [opFn,m,f,p,b,AS.blk,hb,q,qkz c,if_true,qtn c,Option.map_some,qy]
theorem qub {m a y : Operand} (c : q3d i.eagg ks ek) (k : α) (v : β) (f : Qw ops ⟨sl,hp,nx⟩ ⟨none,.mapUpdate mt m a y,ty,pos,af,g⟩ = some true) (j : T mt = some i) (b : i.keys = some ks)
    (s : AS.ev ⟨sl,hp,nx⟩ m = some (.mp n)) (p : AS.ev ⟨sl,hp,nx⟩ a = some (.d (ek k))) (q : AS.ev ⟨sl,hp,nx⟩ y = some (.d (ev v))) (hb : find hp n = some (.mp (mrow ek ev es))) (r : Yi (ev v) = true)
    (h : OpsK P T base ops dr l ⟨sl,repl hp n (.mp (mrow ek ev (Ul k v es))),nx⟩ K) (o : okO dr l.length ⟨sl,hp,nx⟩ (.mapUpdate mt m a y) ⟨sl,repl hp n (.mp (mrow ek ev (Ul k v es))),nx⟩ = true:=by rfl) : OpsK P T base ops dr (⟨none,.mapUpdate mt m a y,ty,pos,af,g⟩::l) ⟨sl,hp,nx⟩ K:=by
  refine Ye f (v:=.dead) (st1:=⟨sl,repl hp n (.mp (mrow ek ev (Ul k v es))),nx⟩) ?_ h o;simp only [opFn,j,s,p,q,b,AS.blk,hb,qkz c,r,and_self,if_true,qts c,Option.map_some];rfl
end
end Go.Am
