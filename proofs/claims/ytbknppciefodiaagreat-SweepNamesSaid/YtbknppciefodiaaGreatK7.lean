/- Lf3 Lf4 Lf5 Lf6 -/
import Derived.Test.YtbknppciefodiaaGreatK6
namespace Go.Am
open Go
theorem RunK.toEv {P : Program} {T : Tab} {base : Nat} {c : Code} {st : AS} {K : Ex→AS→Prop} (h : RunK P T base [c] st K) : ∃ ex st',Kw P T base c st ex st'∧K ex st':=q4f h
section
variable {P : Program} {T : Tab} {base : Nat} {ops : Array Oper} {l : List Oper} {sl : List (Nat × V)} {hp : List (Nat × Blk)} {nx : Nat} {K : AS→Prop} {ty : TypeId} {pos : String} {af : Array Edge} {dst : Option Tmp} {g : Option (Nat × Bool)}
theorem q3l {β : Type} {c : Call} {f : FuncId} {fn : Func} {k : Code} (m : List V) (E : β→Prop) (S : β→AS) (t : Qp ops ⟨sl,hp,nx⟩ ⟨dst,.call c,ty,pos,af,g⟩ = some true) (u : callee ⟨sl,hp,nx⟩ c = some (f,m))
    (x : P.funcs[f]? = some fn) (hb : fn.body = some k) (a : (fn.name == "runtime.NumGoroutine") = false) (d : codeOk fn.ntmps k = true) (n : Nat.ble m.length fn.ntmps = true)
    (h : RunK P T nx [k] ⟨Y5 0 m,hp,nx⟩ (fun ex st'=>(ex = .nor∨ex = .ret)∧∃ v,resV T st' fn.results.toList = some v∧∃ b,E b∧WkE base ((⟨sl,st'.hp,st'.nx⟩ : AS).putD dst v) (S b)))
    (q : ∀ b,E b→OpsK P T base ops none l (S b) K) : OpsK P T base ops none (⟨dst,.call c,ty,pos,af,g⟩::l) ⟨sl,hp,nx⟩ K:=by
  obtain ⟨ex,st',e,r,v,y,b,j,s⟩:=h.toEv;obtain ⟨st2,o,p⟩:=q b j;obtain ⟨ρ,fz,ph,w⟩:=s;exact ⟨st2,.callS t rfl u (.mk x hb a d (by simpa using n) e r y) (.wk w o),p⟩
theorem q4x {β : Type} {c : Call} {gf : Operand} {n : Nat} {z : List V} {s : List (Nat × V)} {f : List Tmp} {assign body A B : Code} (E : β→Prop) (S : β→AS) (hA : assign = A) (hB : body = B) (hg : Qp ops ⟨sl,hp,nx⟩ ⟨dst,.call c,ty,pos,af,g⟩ = some true)
    (k : c.callee = .value gf) (y : AS.ev ⟨sl,hp,nx⟩ gf = some (.yld n)) (v : evL (AS.ev ⟨sl,hp,nx⟩) c.args.toList = some z) (hb : find hp n = some (.loop s f A B .ready none)) (hl : f.length = z.length)
    (h : RunK P T nx [assign] ⟨q1p s f z,hp,nx⟩ (fun ex st1=>ex = .nor∧∃ q,find st1.hp n = some (.loop q f A B .ready none)∧
      RunK P T nx [body] (st1.setBlk n (.loop q f A B .busy none)) (fun ex st2=>∃ j,find st2.hp n = some (.loop j f A B .busy none)∧match ex with
        | .nor=>∃ b,E b∧WkE base ((⟨sl,repl st2.hp n (.loop j f A B .ready none),st2.nx⟩ : AS).putD dst (.d (.bool true))) (S b)
        | ex=>OpsK P T base ops none l ((⟨sl,repl st2.hp n (.loop j f A B .done ex.code),st2.nx⟩ : AS).putD dst (.d (.bool false))) K)))
    (hr : ∀ b,E b→OpsK P T base ops none l (S b) K) : OpsK P T base ops none (⟨dst,.call c,ty,pos,af,g⟩::l) ⟨sl,hp,nx⟩ K:=by
  subst hA hB;obtain ⟨ai,st1,e1,rfl,q,x,o⟩:=h.toEv;obtain ⟨ex,st2,e2,j,r,t⟩:=o.toEv
  have key : ∀ a,Ko P T base ops none l ((⟨sl,repl st2.hp n (.loop j f assign body (if ex = .nor then .ready else .done) ex.code),st2.nx⟩ : AS).putD dst (.d (.bool (decide (ex = .nor))))) a→Ko P T base ops none (⟨dst,.call c,ty,pos,af,g⟩::l) ⟨sl,hp,nx⟩ a:=
    fun a h3=>.callY hg rfl k y v hb hl e1 x e2 r h3
  cases ex with
  | nor=>
    obtain ⟨b,u,ρ,fz,ph,w⟩:=t;obtain ⟨a,m,p⟩:=hr b u;exact ⟨a,key a (.wk w m),p⟩
  | exit i=>
    obtain ⟨a,m,p⟩:=t;exact ⟨a,key a m,p⟩
  | ret=>
    obtain ⟨a,m,p⟩:=t;exact ⟨a,key a m,p⟩
end
section
variable {P : Program} {T : Tab} {base : Nat} {cs : List Code} {sl : List (Nat × V)} {hp : List (Nat × Blk)} {nx : Nat} {K : Ex→AS→Prop}
def qcd (P : Program) (T : Tab) (base : Nat) (cs : List Code) (K : Ex→AS→Prop) : Ex→AS→Prop:=q9u (fun st'=>RunK P T base cs st' K) K
theorem q5b {m : Operand} {l : Array Tmp} {assign body : Code} {f : FuncId} {fn : Func} {k : Code} (a : List V)
    (q : AS.ev ⟨sl,hp,nx⟩ m = some (.fn f a)∨∃ ds,AS.ev ⟨sl,hp,nx⟩ m = some (.d (.fn f ds))∧a = ds.map .d)
    (t : P.funcs[f]? = some fn) (hb : fn.body = some k) (g : (fn.name == "runtime.NumGoroutine") = false) (j : codeOk fn.ntmps k = true) (n : Nat.ble (a.length + 1) fn.ntmps = true)
    (h : ∀ A B,assign = A→body = B→RunK P T (nx + 1) [k] ⟨Y5 0 (.yld nx::a),(nx,.loop sl l.toList A B .ready none)::hp,nx + 1⟩ (fun c b=>(c = .nor∨c = .ret)∧∃ v,resV T b fn.results.toList = some v∧
      ∃ (s : List (Nat × V)) (ls : LoopState) (ex : Ex),find b.hp nx = some (.loop s l.toList A B ls ex.code)∧ls≠.busy∧qcd P T base cs K ex ⟨sl,repl b.hp nx .dead,b.nx⟩)) :
    RunK P T base (.rangeFunc m l assign body::cs) ⟨sl,hp,nx⟩ K:=by
  obtain ⟨c,b,e,p,v,w,s,ls,ex,u,o,r⟩:=(h assign body rfl rfl).toEv;exact ⟨ex,_,.rangeF (pe:=ex.code) q (.mk t hb g j (by simpa using n) e p w) u o rfl,r⟩
theorem q4b {st : AS} (h : RunK P T base cs st K) : qcd P T base cs K .nor st:=h
theorem qa4 {st : AS} (h : K .ret st) : qcd P T base cs K .ret st:=h
end
inductive WvS (st : AS) (ρ : Nat→Nat) (fz ph : List Nat) (nx : Nat) : List (Nat × V)→List (Nat × V)→Prop
  | nil {s : List (Nat × V)} : WvS st ρ fz ph nx s []
  | cons {s s' : List (Nat × V)} {t : Nat} {v v' : V} : find s t = some v→Wv st ρ fz ph nx v v'→WvS st ρ fz ph nx s s'→WvS st ρ fz ph nx s ((t,v')::s')
theorem q10k {st : AS} {ρ : Nat→Nat} {fz ph : List Nat} {nx : Nat} {s b : List (Nat × V)} {f : List Tmp} {as c : Code} {d : LoopState} {pe : Option Code} (h : WvS st ρ fz ph nx s b) : Wb st ρ fz ph nx (.loop s f as c d pe) (.loop b f as c d pe):=by
  refine .loop fun t g a=>?_
  induction h with
  | nil=>simp [find] at a
  | @cons b t' v v'' h1 h2 _ ih=>
    simp only [find] at a
    cases hb : Nat.beq t' t with
    | true=>rw [hb] at a;cases a;obtain rfl:=Nat.eq_of_beq_eq_true hb;exact ⟨v,h1,h2⟩
    | false=>rw [hb] at a;exact ih a
theorem qlw {α : Type} {enc : α→List DV} {es : Nat} (a : ∀ x,(enc x).length = es) {xs : List α} {k : Nat} {v : α} (h : xs[k]? = some v) : sub (xs.flatMap enc) (k * es) es = some (enc v):=by
  induction xs generalizing k with
  | nil=>simp at h
  | cons x xs ih=>
    cases k with
    | zero=>
      simp at h;subst h;have:=a x;simp [sub,List.flatMap_cons,this]
    | succ k=>
      have c : xs[k]? = some v:=by simpa using h
      have:=ih c;unfold sub at this ⊢;have d:=a x;have b : (k + 1) * es = (enc x).length + k * es:=by rw [Nat.succ_mul,d];omega
      rw [List.flatMap_cons,b];split at this
      · rename_i f;rw [qm (by rw [List.length_append];omega),← List.drop_drop,List.drop_left];exact this
      · cases this
theorem qz7 {α : Type} {enc : α→List DV} {es : Nat} (a : ∀ x,(enc x).length = es) {xs : List α} {k : Nat} {v : α} (h : k < xs.length) : splice (xs.flatMap enc) (k * es) (enc v) = (xs.set k v).flatMap enc:=by
  induction xs generalizing k with
  | nil=>simp at h
  | cons x xs ih=>
    have b:=a x;have d:=a v
    cases k with
    | zero=>
      simp only [splice,Nat.zero_mul,List.take_zero,List.nil_append,Nat.zero_add,List.flatMap_cons,List.set_cons_zero];rw [d,← b,List.drop_left]
    | succ k=>
      have:=ih (k:=k) (by simpa using h);simp only [splice] at this ⊢;have c : (k + 1) * es = (enc x).length + k * es:=by rw [Nat.succ_mul,b];omega
      rw [List.flatMap_cons,List.set_cons_succ,List.flatMap_cons,c,← this];rw [List.take_length_add_append,show (enc x).length + k * es + (enc v).length = (enc x).length + (k * es + (enc v).length) by omega,← List.drop_drop,List.drop_left];simp [List.append_assoc]
theorem qpj {α : Type} {enc : α→List DV} {es : Nat} (a : ∀ x,(enc x).length = es) (xs : List α) : (xs.flatMap enc).length = xs.length * es:=by
  induction xs with
  | nil=>simp
  | cons x xs ih=>rw [List.flatMap_cons,List.length_append,a,ih,List.length_cons,Nat.succ_mul];omega
def idxA {α : Type} (n : Nat) (xs : List α) (i : Int) : Option α:=if 0≤i∧i < n then xs[i.toNat]? else none
def andI (k : IntKind) (x y : Int) : Int:=k.wrap (BitVec.ofInt k.bits x &&& BitVec.ofInt k.bits y).toNat
def xorI (k : IntKind) (x y : Int) : Int:=k.wrap (BitVec.ofInt k.bits x ^^^ BitVec.ofInt k.bits y).toNat
section
variable {P : Program} {T : Tab} {base : Nat} {ops : Array Oper} {dr : Dr} {l : List Oper} {sl : List (Nat × V)} {hp : List (Nat × Blk)} {nx : Nat} {K : AS→Prop} {ty : TypeId} {pos : String} {af : Array Edge} {t : Tmp} {g : Option (Nat × Bool)}
theorem qzg {α β : Type} (f : α→β) (cs : List α) (j n : Nat) : sub (cs.map f) j n = (sub cs j n).map (·.map f):=by
  unfold sub;simp only [List.length_map];split
  · simp [List.map_take,List.map_drop]
  · rfl
theorem qam {α : Type} {n : Nat} {xs : List α} {i : Int} {v : α} (h : idxA n xs i = some v) : 0≤i∧i < n∧xs[i.toNat]? = some v:=by
  unfold idxA at h;split at h
  · rename_i a;exact ⟨a.1,a.2,h⟩
  · cases h
theorem qrl {α : Type} {x y : Operand} {b : TypeId} {i : TI} {k : IntKind} {n : Int} {enc : α→List DV} {v : α} (xs : List α) (w : V) (u : idxA i.len xs n = some v) (a : ∀ x,(enc x).length = i.esize) (o : Qp ops ⟨sl,hp,nx⟩ ⟨some t,.index b x y,ty,pos,af,g⟩ = some true) (q : T b = some i)
    (m : AS.ev ⟨sl,hp,nx⟩ x = some (.d (.agg (xs.flatMap enc)))) (f : AS.ev ⟨sl,hp,nx⟩ y = some (.d (.int k n))) (j : i.kind = .array) (p : pack i.eagg ((enc v).map .d) = some w)
    (h : OpsK P T base ops dr l ⟨(t,w)::sl,hp,nx⟩ K) : OpsK P T base ops dr (⟨some t,.index b x y,ty,pos,af,g⟩::l) ⟨sl,hp,nx⟩ K:=by
  obtain ⟨r,s,c⟩:=qam u;refine Ye o (v:=w) (st1:=⟨sl,hp,nx⟩) ?_ h (Jd rfl);simp only [opFn,q,m,f,j,agD];rw [qm ⟨r,s⟩,qzg,qlw a c];simp only [Option.map_some,p]
theorem qaw {α : Type} {x y : Operand} {a : TypeId} {i : TI} {k : IntKind} {n : Int} {m es : Nat} {v : α} {xs : List α} (q : idxA i.len xs n = some v) (f : Qp ops ⟨sl,hp,nx⟩ ⟨some t,.indexAddr a x y,ty,pos,af,g⟩ = some true) (j : T a = some i)
    (c : AS.ev ⟨sl,hp,nx⟩ x = some (.ref m es 0 0)) (r : AS.ev ⟨sl,hp,nx⟩ y = some (.d (.int k n))) (b : i.kind = .array)
    (h : OpsK P T base ops dr l ⟨(t,.ref m es 0 (n.toNat * i.esize))::sl,hp,nx⟩ K) : OpsK P T base ops dr (⟨some t,.indexAddr a x y,ty,pos,af,g⟩::l) ⟨sl,hp,nx⟩ K:=by
  obtain ⟨o,p,_⟩:=qam q;exact Ye f (v:=.ref m es 0 (n.toNat * i.esize)) (st1:=⟨sl,hp,nx⟩) (by simp [opFn,c,r,j,q3k,b,o,p]) h (Jd rfl)
theorem qeh {α : Type} {p : Operand} {a : TypeId} {i : TI} {m es sz ln : Nat} {n : Int} {xs : List α} {enc : α→List DV} {v : α} (w : V) (q : idxA ln xs n = some v) (b : ∀ x,(enc x).length = sz) (f : Qp ops ⟨sl,hp,nx⟩ ⟨some t,.load a p,ty,pos,af,g⟩ = some true) (o : T a = some i)
    (c : AS.ev ⟨sl,hp,nx⟩ p = some (.ref m es 0 (n.toNat * sz))) (hb : find hp m = some (.dat es [xs.flatMap enc])) (hs : sz = i.size) (j : (q1n i.agg (enc v)).map .d = some w)
    (h : OpsK P T base ops dr l ⟨(t,w)::sl,hp,nx⟩ K) (k : okF dr l.length (fp ⟨sl,hp,nx⟩ (.load a p)) = true:=by rfl) : OpsK P T base ops dr (⟨some t,.load a p,ty,pos,af,g⟩::l) ⟨sl,hp,nx⟩ K:=
  qjl f o c hb rfl (by rw [← hs];exact qlw b (qam q).2.2) j h k
theorem qrx {α : Type} {p x : Operand} {k : TypeId} {i : TI} {m es sz ln : Nat} {n : Int} {xs : List α} {enc : α→List DV} {v : α} (f : α) {u : V} (z : idxA ln xs n = some v) (a : ∀ x,(enc x).length = sz) (t : Qp ops ⟨sl,hp,nx⟩ ⟨none,.store k p x,ty,pos,af,g⟩ = some true) (y : T k = some i)
    (hp' : AS.ev ⟨sl,hp,nx⟩ p = some (.ref m es 0 (n.toNat * sz))) (s : AS.ev ⟨sl,hp,nx⟩ x = some u) (hb : find hp m = some (.dat es [xs.flatMap enc])) (hs : sz = i.size) (o : cellsOf u = (enc f).map .d) (r : (enc f).all Yd = true)
    (h : OpsK P T base ops dr l ⟨sl,repl hp m (.dat es [(xs.set n.toNat f).flatMap enc]),nx⟩ K) (w : okO dr l.length ⟨sl,hp,nx⟩ (.store k p x) ⟨sl,repl hp m (.dat es [(xs.set n.toNat f).flatMap enc]),nx⟩ = true:=by rfl) : OpsK P T base ops dr (⟨none,.store k p x,ty,pos,af,g⟩::l) ⟨sl,hp,nx⟩ K:=by
  have b:=Ke (qam z).2.2;refine Ye t (v:=.dead) (st1:=⟨sl,repl hp m (.dat es [(xs.set n.toNat f).flatMap enc]),nx⟩) ?_ h w;have j : (cellsOf u).all Km = true:=by rw [o,List.all_map];exact r
  have c : (cellsOf u).length = i.size:=by rw [o,List.length_map,a];exact hs
  have q : n.toNat * sz + i.size≤(xs.flatMap enc).length:=by
    rw [qpj a,← hs,← Nat.succ_mul];exact Nat.mul_le_mul_right _ b
  simp only [opFn,y,hp',s,Jg,AS.blk,hb,Nat.beq_refl];rw [ql (by simp [j,c])];simp only [List.getElem?_cons_zero];rw [qm q,o,qce];simp only [qz7 a b,AS.setBlk,List.set_cons_zero];rfl
theorem qc5 {α : Type} {st : AS} {ρ : Nat→Nat} {fz ph : List Nat} {nx n es : Nat} {w : Nat × Nat} {ys : List α} {enc : α→List DV} (b : w.1 + w.2≤ys.length) (hb : st.blk n = some (.dat es (ys.map enc))) (a : n∈fz) : Wv st ρ fz ph nx (.hs n es w.1 w.2) (.d (.sl es (((ys.drop w.1).take w.2).map enc))):=
  .frz hb a (by simpa using b) (by rw [List.map_take,List.map_drop]) rfl
theorem qn2 {hp : List (Nat × Blk)} {a : List V} {ds C : List DV} (h : Kq hp a = some ds) : Kq hp (a ++ C.map .d) = some (ds ++ C):=by
  induction a generalizing ds with
  | nil=>
    simp [Kq] at h;subst h
    induction C with
    | nil=>rfl
    | cons c C ih=>
      simp only [List.nil_append,List.map_cons] at ih ⊢;simp only [Kq];rw [show toD hp 8 (.d c) = some c from rfl,ih]
  | cons v a ih=>
    simp only [Kq] at h;split at h <;> simp at h
    rename_i x l f b;subst h;simp only [List.cons_append,Kq,f,ih b]
theorem qpk {a : List V} {C : List DV} : fpC (a ++ C.map .d) = fpC a:=by
  unfold fpC;have : (C.map V.d).all V.isD = true:=by rw [List.all_map];simp [V.isD]
  rw [List.all_append,this,Bool.and_true]
theorem Yf {c : Call} {f : FuncId} {C ds : List DV} {r : DV} (a : List V) (b : Pure P T f (ds ++ C) r) (k : Qp ops ⟨sl,hp,nx⟩ ⟨some t,.call c,ty,pos,af,g⟩ = some true) (j : callee ⟨sl,hp,nx⟩ c = some (f,a ++ C.map .d)) (hd : Kq hp a = some ds)
    (hs : (a.all V.isD = true∨r.scalar = true)) (h : OpsK P T base ops dr l ⟨(t,.d r)::sl,hp,nx⟩ K) (m : okF dr l.length (fpC a) = true:=by rfl) : OpsK P T base ops dr (⟨some t,.call c,ty,pos,af,g⟩::l) ⟨sl,hp,nx⟩ K:=by
  refine qjk k rfl j (qn2 hd) ?_ b h (by rw [qpk];exact m);rcases hs with hs | hs
  · left;rw [List.all_append,hs,Bool.true_and,List.all_map];simp [V.isD]
  · exact .inr hs
end
end Go.Am
namespace Go.Am
open Go
theorem Yh {base : Nat} {st st' : AS} (l : List (Nat × Nat)) (fz ph : List Nat) (g : wkOk base l fz ph st'.hp st'.nx = true) (hs : WkL st (rho l) fz ph st'.nx st'.sl) (s : WkH st (rho l) fz ph st'.nx st'.hp) : Wk base (rho l) fz ph st st':=by
  simp only [wkOk,Bool.and_eq_true,Nat.ble_eq,List.all_eq_true] at g;obtain ⟨⟨⟨⟨v,p⟩,r⟩,q⟩,o⟩:=g;refine ⟨?_,?_,?_,?_,?_,v,?_,?_⟩
  · exact fun t y h=>hs.get (Zx h)
  · exact fun n x h=>s.get (Zx h)
  · intro n m b c a k d j w;have:=o _ (Zx a);simp only [Bool.or_eq_true,Bool.and_eq_true,q4t,List.all_eq_true,Bool.not_eq_true'] at this;rcases this with h | h
    · exact absurd h d
    · have:=h.2 _ (Zx k);rcases this with (f | f) | f
      · exact absurd f j
      · rw [w] at f;simp at f
      · exact Nat.eq_of_beq_eq_true f
  · intro n b a d u;have:=o _ (Zx a);simp only [Bool.or_eq_true,Bool.and_eq_true,q4t,Bool.not_eq_true'] at this;rcases this with h | h
    · exact absurd h d
    · rw [q4t.2 u] at h;exact absurd h.1 qe
  · intro n a;unfold rho;split
    · rename_i m k;have:=p _ (Zx k);simp at this;omega
    · rfl
  · exact fun n a=>r n a
  · exact fun n a=>q n a
def q73 (l l3 : List (Nat × Nat)) (k k' nx nxN : Nat) : Bool:=
  (List.range k).all (fun i=>Nat.blt (rho l i) nx && Nat.beq (rho l3 (rho l i)) i) && (List.range nx).all (fun m=>(Nat.blt (rho l3 m) k && Nat.beq (rho l (rho l3 m)) m) || Nat.ble k' (rho l3 m)) && Nat.ble nx nxN
def OldL (l : List (Nat × Nat)) (k : Nat) (hp hpR : List (Nat × Blk)) : List (Nat × Blk)→Prop
  | []=>True
  | (m,b)::r=>(find hpR m = some b∨(find hp m = some b∧(List.range k).all (fun i=>!(Nat.beq (rho l i) m)) = true))∧OldL l k hp hpR r
theorem OldL.get {l : List (Nat × Nat)} {k : Nat} {hp a : List (Nat × Blk)} : ∀ {r : List (Nat × Blk)},OldL l k hp a r→∀ m b,(m,b)∈r→find a m = some b∨(find hp m = some b∧∀ i,i < k→rho l i≠m)
  | [],_,m,b,h=>by cases h
  | (m',b')::r,h,m,b,c=>by
    rcases List.mem_cons.1 c with e | c
    · cases e
      refine h.1.imp (fun x=>x) fun ⟨d,h2⟩=>⟨d,fun i hi e=>?_⟩
      have:=List.all_eq_true.1 h2 i (List.mem_range.2 hi)
      rw [e] at this;simp at this
    · exact OldL.get h.2 m b c
section
variable {P : Program} {T : Tab} {base : Nat} {ops : Array Oper} {l : List Oper} {sl : List (Nat × V)} {hp : List (Nat × Blk)} {nx : Nat} {K : AS→Prop} {ty : TypeId} {pos : String} {af : Array Edge} {dst : Option Tmp} {g : Option (Nat × Bool)}
theorem Jy {c : Call} {f : FuncId} {d : List V} {hp0 q : List (Nat × Blk)} {k s : Nat} {vR : V} (t x : List (Nat × Nat)) (v : List V) (y : V) (a o : List (Nat × Blk)) (j : Nat) (he : K9 P T f d hp0 k vR q s) (hg : Qp ops ⟨sl,hp,nx⟩ ⟨dst,.call c,ty,pos,af,g⟩ = some true) (hc : callee ⟨sl,hp,nx⟩ c = some (f,v)) (p : v.length = d.length)
    (u : Wk 0 (rho t) [] [] ⟨Y5 0 v,hp,nx⟩ ⟨Y5 0 d,hp0,k⟩) (r : Wk 0 (rho x) [] [] ⟨[(0,vR)],q,s⟩ ⟨[(0,y)],a,j⟩) (hb : q73 t x k s nx j = true) (hold : OldL t k hp a o)
    (h : OpsK P T base ops none l ((⟨sl,o,j⟩ : AS).putD dst y) K) : OpsK P T base ops none (⟨dst,.call c,ty,pos,af,g⟩::l) ⟨sl,hp,nx⟩ K:=by
  obtain ⟨st2,z,k2⟩:=h;refine ⟨st2,.callF hg rfl hc p u he r ⟨?_,?_,?_,?_,?_⟩ z,k2⟩
  · intro i hi;simp only [q73,Bool.and_eq_true,List.all_eq_true,List.mem_range] at hb;have:=hb.1.1 i hi;exact ⟨by simpa [Nat.blt_eq] using this.1,Nat.eq_of_beq_eq_true this.2⟩
  · intro m w;simp only [q73,Bool.and_eq_true,List.all_eq_true,List.mem_range,Bool.or_eq_true] at hb;rcases hb.1.2 m w with n | n
    · exact .inl ⟨by simpa [Nat.blt_eq] using n.1,Nat.eq_of_beq_eq_true n.2⟩
    · exact .inr (by simpa using n)
  · intro m w;cases w
  · exact fun m b n=>hold.get m b (Zx n)
  · simp only [q73,Bool.and_eq_true] at hb;simpa using hb.2
end
theorem Kr {P : Program} {T : Tab} {f : FuncId} {fn : Func} {c : Code} {g : List V} {hp b : List (Nat × Blk)} {nx j : Nat} {vR : V} (n : P.funcs[f]? = some fn) (hb : fn.body = some c) (a : (fn.name == "runtime.NumGoroutine") = false) (d : codeOk fn.ntmps c = true) (k : Nat.ble g.length fn.ntmps = true)
    (h : RunK P T nx [c] ⟨Y5 0 g,hp,nx⟩ (fun ex st=>(ex = .nor∨ex = .ret)∧∃ v,resV T st fn.results.toList = some v∧WkE nx ⟨[(0,v)],st.hp,st.nx⟩ ⟨[(0,vR)],b,j⟩)) : K9 P T f g hp nx vR b j:=by
  obtain ⟨ex,st',e,l,v,m,ρ,fz,ph,w⟩:=q4f h;exact .wk (.mk n hb a d (by simpa using k) e l m) w
def shlK (k : IntKind) (x y : Int) : Option Int:=if y < 0 then none else some (k.wrap (x * 2 ^ (min y.toNat k.bits)))
section
variable {P : Program} {T : Tab} {base : Nat} {ops : Array Oper} {dr : Dr} {l : List Oper} {sl : List (Nat × V)} {hp : List (Nat × Blk)} {nx : Nat} {K : AS→Prop} {ty : TypeId} {pos : String} {af : Array Edge} {t : Tmp} {g : Option (Nat × Bool)}
theorem qrv {x y : Operand} {j f : TypeId} {a b r : Int} {k m : IntKind} (c : shlK k a b = some r) (p : Qp ops ⟨sl,hp,nx⟩ ⟨some t,.binOp .shl j x y f,ty,pos,af,g⟩ = some true) (q : AS.ev ⟨sl,hp,nx⟩ x = some (.d (.int k a))) (n : AS.ev ⟨sl,hp,nx⟩ y = some (.d (.int m b)))
    (h : OpsK P T base ops dr l ⟨(t,.d (.int k r))::sl,hp,nx⟩ K) : OpsK P T base ops dr (⟨some t,.binOp .shl j x y f,ty,pos,af,g⟩::l) ⟨sl,hp,nx⟩ K:=by
  unfold shlK at c;split at c
  · cases c
  · rename_i o;cases c;exact Ye p (v:=.d (.int k (k.wrap (a * 2 ^ (min b.toNat k.bits))))) (st1:=⟨sl,hp,nx⟩) (by simp [opFn,q,n,binD,q87,o]) h (Jd rfl)
end
def Qy (n m : Nat) : Option Unit:=if n = m then some () else none
theorem Kn {n m : Nat} {u : Unit} (h : Qy n m = some u) : n = m:=by
  unfold Qy at h;split at h
  · assumption
  · cases h
def q43 (s : ByteArray) (i : Int) : Option Int:=(if 0≤i then s[i.toNat]? else none).map fun b=>(b.toNat : Int)
theorem qrm {P : Program} {T : Tab} {base : Nat} {ops : Array Oper} {dr : Dr} {l : List Oper} {sl : List (Nat × V)} {hp : List (Nat × Blk)} {nx : Nat} {K : AS→Prop} {ty : TypeId} {pos : String} {af : Array Edge} {t : Tmp} {g : Option (Nat × Bool)} {x y : Operand} {a : TypeId} {i : TI} {k : IntKind} {n v : Int} (s : ByteArray) (c : q43 s n = some v) (m : Qp ops ⟨sl,hp,nx⟩ ⟨some t,.index a x y,ty,pos,af,g⟩ = some true) (p : T a = some i)
    (o : AS.ev ⟨sl,hp,nx⟩ x = some (.d (.str s))) (f : AS.ev ⟨sl,hp,nx⟩ y = some (.d (.int k n))) (j : i.kind = .str)
    (h : OpsK P T base ops dr l ⟨(t,.d (.int .u8 v))::sl,hp,nx⟩ K) : OpsK P T base ops dr (⟨some t,.index a x y,ty,pos,af,g⟩::l) ⟨sl,hp,nx⟩ K:=by
  unfold q43 at c;rw [Y4] at c;obtain ⟨b,hb,rfl⟩:=c;refine Ye m (v:=.d (.int .u8 b.toNat)) (st1:=⟨sl,hp,nx⟩) ?_ h (Jd rfl);simp only [opFn,p,o,f,j,hb,Option.map_some]
open Classical in
noncomputable def lim {α : Type} (f : Nat→Option α) : Option α:=if h : ∃ r n,f n = some r then some h.choose else none
theorem qdx {α : Type} {f : Nat→Option α} {r : α} (h : lim f = some r) : ∃ n,f n = some r:=by
  unfold lim at h;split at h
  · rename_i a;cases h;exact a.choose_spec
  · cases h
theorem qqn {α : Type} {f : Nat→Option α} {n : Nat} {r : α} (h : f n = some r) : ∃ a,lim f = some a:=by
  unfold lim;rw [dif_pos ⟨r,n,h⟩];exact ⟨_,rfl⟩
theorem Ym {P : Program} {T : Tab} {base : Nat} {c : Code} {cs : List Code} {st : AS} {K : Ex→AS→Prop} (h : RunK P T base (c::.loop c::cs) st K) : RunK P T base (.loop c::cs) st K:=by
  obtain ⟨ex,st1,a,d⟩:=h
  cases ex with
  | nor=>
    obtain ⟨b,st2,f,g⟩:=d;exact ⟨b,st2,.loopN a f,g⟩
  | exit i=>exact ⟨_,_,.loopX a qe,d⟩
  | ret=>exact ⟨_,_,.loopX a qe,d⟩
def idxW {α : Type} (xs : List α) (w : Nat × Nat) (k : Int) : Option α:=if 0≤k∧k < w.2 then xs[w.1 + k.toNat]? else none
theorem qdu {α : Type} {xs : List α} {w : Nat × Nat} {k : Int} {v : α} (h : idxW xs w k = some v) : idx xs ((w.1 : Int) + k) = some v:=by
  unfold idxW at h;split at h
  · rename_i a;unfold idx;rw [qm q0];rw [show ((w.1 : Int) + k).toNat = w.1 + k.toNat by omega];exact h
  · cases h
def q12 (n : Nat) (w : Nat × Nat) : Option Unit:=if w.1 + w.2≤n then some () else none
theorem qc3 {n : Nat} {w : Nat × Nat} {u : Unit} (h : q12 n w = some u) : w.1 + w.2≤n:=by
  unfold q12 at h;split at h
  · assumption
  · cases h
def clrw {α : Type} (xs : List α) (w : Nat × Nat) (z : α) : List α:=splice xs w.1 (List.replicate w.2 z)
theorem qgp {α : Type} {xs : List α} {w : Nat × Nat} {z : α} (h : w.1 + w.2≤xs.length) : (clrw xs w z).length = xs.length:=by
  unfold clrw splice;simp;omega
section
variable {P : Program} {T : Tab} {base : Nat} {ops : Array Oper} {dr : Dr} {l : List Oper} {sl : List (Nat × V)} {hp : List (Nat × Blk)} {nx : Nat} {K : AS→Prop} {ty : TypeId} {pos : String} {af : Array Edge} {t : Tmp} {g : Option (Nat × Bool)}
theorem qeg {α : Type} {x y : Operand} {a : TypeId} {i : TI} {k : IntKind} {n : Int} {m es : Nat} {xs : List α} {w : Nat × Nat} {v : α} (b : idxW xs w n = some v) (o : Qp ops ⟨sl,hp,nx⟩ ⟨some t,.indexAddr a x y,ty,pos,af,g⟩ = some true) (p : T a = some i)
    (j : AS.ev ⟨sl,hp,nx⟩ x = some (.hs m es w.1 w.2)) (r : AS.ev ⟨sl,hp,nx⟩ y = some (.d (.int k n))) (f : i.kind = .slice) (q : es = i.esize)
    (h : OpsK P T base ops dr l ⟨(t,.ref m es ((w.1 : Int) + n).toNat 0)::sl,hp,nx⟩ K) : OpsK P T base ops dr (⟨some t,.indexAddr a x y,ty,pos,af,g⟩::l) ⟨sl,hp,nx⟩ K:=by
  have c : 0≤n∧n < w.2:=by
    unfold idxW at b;split at b
    · assumption
    · cases b
  refine qri o p j r f q c.1 c.2 ?_;rw [show ((w.1 : Int) + n).toNat = w.1 + n.toNat by omega] at h;exact h
theorem qrh {α : Type} {x : Operand} {a : TypeId} {i : TI} {n es : Nat} {xs : List α} {enc : α→List DV} (z : α) {w : Nat × Nat} (j : w.1 + w.2≤xs.length) (f : Qp ops ⟨sl,hp,nx⟩ ⟨none,.call {callee:=.builtin .clear,args:=#[x],argTypes:=#[a]},ty,pos,af,g⟩ = some true) (o : T a = some i)
    (c : AS.ev ⟨sl,hp,nx⟩ x = some (.hs n es w.1 w.2)) (hb : find hp n = some (.dat es (xs.map enc))) (b : i.kind = .slice) (p : i.esize = es) (m : i.ezero = enc z)
    (h : OpsK P T base ops dr l ⟨sl,repl hp n (.dat es ((clrw xs w z).map enc)),nx⟩ K) (k : okO dr l.length ⟨sl,hp,nx⟩ (.call {callee:=.builtin .clear,args:=#[x],argTypes:=#[a]}) ⟨sl,repl hp n (.dat es ((clrw xs w z).map enc)),nx⟩ = true:=by rfl) :
    OpsK P T base ops dr (⟨none,.call {callee:=.builtin .clear,args:=#[x],argTypes:=#[a]},ty,pos,af,g⟩::l) ⟨sl,hp,nx⟩ K:=by
  subst p;refine Ye f (v:=.d (.tup [])) (st1:=⟨sl,repl hp n (.dat i.esize ((clrw xs w z).map enc)),nx⟩) ?_ h k;simp only [opFn,evL,c,Y7];simp only [List.getElem?_toArray,List.getElem?_cons_zero,o];rw [qm ⟨b,by simp [Ju]⟩];simp only [Js,AS.blk,hb];rw [qm ⟨by simpa using j,trivial⟩,m];simp [clrw,splice,AS.setBlk]
end
section
variable {P : Program} {T : Tab} {base : Nat} {ops : Array Oper} {dr : Dr} {l : List Oper} {sl : List (Nat × V)} {hp : List (Nat × Blk)} {nx : Nat} {K : AS→Prop} {ty : TypeId} {pos : String} {af : Array Edge} {t : Tmp} {g : Option (Nat × Bool)}
end
end Go.Am
namespace Go.Am
open Go
theorem J {α : Sort _} {a : α} : a = a:=rfl
abbrev q8 (n : Int) : DV:=.int .i64 n
abbrev q7 (n : Int) : V:=.d (.int .i64 n)
abbrev qw (b : Bool) : V:=.d (.bool b)
section
variable {P : Program} {T : Tab} {base : Nat} {ops : Array Oper} {dr : Dr} {l : List Oper} {sl : List (Nat × V)} {hp : List (Nat × Blk)} {nx : Nat} {K : AS→Prop} {ty : TypeId} {pos : String} {af : Array Edge} {t : Tmp} {g : Option (Nat × Bool)} {v : V}
theorem U {x : Operand} (a : (Qp ops ⟨sl,hp,nx⟩ ⟨some t,.move x,ty,pos,af,g⟩,AS.ev ⟨sl,hp,nx⟩ x) = (some true,some v))
    (h : OpsK P T base ops dr l ⟨(t,v)::sl,hp,nx⟩ K) : OpsK P T base ops dr (⟨some t,.move x,ty,pos,af,g⟩::l) ⟨sl,hp,nx⟩ K:=qei (Prod.mk.inj a).1 (Prod.mk.inj a).2 h
theorem qb {x : Operand} (a : (Qp ops ⟨sl,hp,nx⟩ ⟨some t,.assign x,ty,pos,af,g⟩,AS.ev ⟨sl,hp,nx⟩ x) = (some true,some v))
    (h : OpsK P T base ops dr l ⟨(t,v)::sl,hp,nx⟩ K) : OpsK P T base ops dr (⟨some t,.assign x,ty,pos,af,g⟩::l) ⟨sl,hp,nx⟩ K:=qrg (Prod.mk.inj a).1 (Prod.mk.inj a).2 h
theorem O {op : Op} (v : V) (a : (Qp ops ⟨sl,hp,nx⟩ ⟨some t,op,ty,pos,af,g⟩,opFn T ⟨sl,hp,nx⟩ op) = (some true,some (v,⟨sl,hp,nx⟩))) (h : OpsK P T base ops dr l ⟨(t,v)::sl,hp,nx⟩ K)
    (b : okO dr l.length ⟨sl,hp,nx⟩ (op) ⟨sl,hp,nx⟩ = true:=by rfl) : OpsK P T base ops dr (⟨some t,op,ty,pos,af,g⟩::l) ⟨sl,hp,nx⟩ K:=qrz v (Prod.mk.inj a).1 (Prod.mk.inj a).2 h b
theorem Qc {op : Op} (n : Nat) (b : Blk) (a : (Qp ops ⟨sl,hp,nx⟩ ⟨none,op,ty,pos,af,g⟩,opFn T ⟨sl,hp,nx⟩ op) = (some true,some (.dead,⟨sl,repl hp n b,nx⟩))) (h : OpsK P T base ops dr l ⟨sl,repl hp n b,nx⟩ K) (c : okO dr l.length ⟨sl,hp,nx⟩ (op) ⟨sl,repl hp n b,nx⟩ = true:=by rfl) : OpsK P T base ops dr (⟨none,op,ty,pos,af,g⟩::l) ⟨sl,hp,nx⟩ K:=
  qry n b (Prod.mk.inj a).1 (Prod.mk.inj a).2 h c
theorem Qu {op : Op} (v : V) (b : Blk) (a : (Qp ops ⟨sl,hp,nx⟩ ⟨some t,op,ty,pos,af,g⟩,opFn T ⟨sl,hp,nx⟩ op) = (some true,some (v,⟨sl,(nx,b)::hp,nx + 1⟩))) (h : OpsK P T base ops dr l ⟨(t,v)::sl,(nx,b)::hp,nx + 1⟩ K) (c : okO dr l.length ⟨sl,hp,nx⟩ (op) ⟨sl,(nx,b)::hp,nx + 1⟩ = true:=by rfl) : OpsK P T base ops dr (⟨some t,op,ty,pos,af,g⟩::l) ⟨sl,hp,nx⟩ K:=
  qrs v b (Prod.mk.inj a).1 (Prod.mk.inj a).2 h c
theorem q4w {α : Type} {x : Operand} {a : TypeId} {i : TI} {es : Nat} {xs : List α} {enc : α→List DV} (n : Int) (c : (xs.length : Int) = n) (k : Qp ops ⟨sl,hp,nx⟩ ⟨some t,.call {callee:=.builtin .len,args:=#[x],argTypes:=#[a]},ty,pos,af,g⟩ = some true) (b : T a = some i) (f : i.kind = .slice) (j : AS.ev ⟨sl,hp,nx⟩ x = some (.d (.sl es (xs.map enc))))
    (h : OpsK P T base ops dr l ⟨(t,.d (.int .i64 n))::sl,hp,nx⟩ K) : OpsK P T base ops dr (⟨some t,.call {callee:=.builtin .len,args:=#[x],argTypes:=#[a]},ty,pos,af,g⟩::l) ⟨sl,hp,nx⟩ K:=by
  subst c;exact qjm k b f j h
theorem K2 {α : Type} {x y : Operand} {a : TypeId} {i : TI} {k : IntKind} {n : Int} {es : Nat} {xs : List α} {enc : α→List DV} {v : α} (q : idx xs n = some v)
    (b : (Qp ops ⟨sl,hp,nx⟩ ⟨some t,.indexAddr a x y,ty,pos,af,g⟩,T a,AS.ev ⟨sl,hp,nx⟩ x,AS.ev ⟨sl,hp,nx⟩ y,i.kind,es) = (some true,some i,some (.d (.sl es (xs.map enc))),some (.d (.int k n)),.slice,i.esize))
    (h : OpsK P T base ops dr l ⟨(t,.dref (enc v) 0)::sl,hp,nx⟩ K) : OpsK P T base ops dr (⟨some t,.indexAddr a x y,ty,pos,af,g⟩::l) ⟨sl,hp,nx⟩ K:=by
  simp only [Prod.mk.injEq] at b;obtain ⟨p,c,o,f,m,j⟩:=b;exact qrk q p c o f m j h
theorem qy {α : Type} {x y : Operand} {a : TypeId} {i : TI} {k : IntKind} {n : Int} {m es len : Nat} {xs : List α} {v : α} (s : idx xs n = some v) (c : len = xs.length)
    (b : (Qp ops ⟨sl,hp,nx⟩ ⟨some t,.indexAddr a x y,ty,pos,af,g⟩,T a,AS.ev ⟨sl,hp,nx⟩ x,AS.ev ⟨sl,hp,nx⟩ y,i.kind,es) = (some true,some i,some (.hs m es 0 len),some (.d (.int k n)),.slice,i.esize))
    (h : OpsK P T base ops dr l ⟨(t,.ref m es n.toNat 0)::sl,hp,nx⟩ K) : OpsK P T base ops dr (⟨some t,.indexAddr a x y,ty,pos,af,g⟩::l) ⟨sl,hp,nx⟩ K:=by
  simp only [Prod.mk.injEq] at b;obtain ⟨r,f,q,j,p,o⟩:=b;exact qrj s c r f q j p o h
theorem Q7 {α : Type} {p : Operand} {a : TypeId} {i : TI} {m es j : Nat} {n : Int} {xs : List α} {enc : α→List DV} {r : List DV} {v : α} (w : V) (x : idx xs n = some v)
    (b : (Qp ops ⟨sl,hp,nx⟩ ⟨some t,.load a p,ty,pos,af,g⟩,T a,AS.ev ⟨sl,hp,nx⟩ p,find hp m,sub (enc v) j i.size,(q1n i.agg r).map V.d) = (some true,some i,some (.ref m es n.toNat j),some (.dat es (xs.map enc)),some r,some w))
    (h : OpsK P T base ops dr l ⟨(t,w)::sl,hp,nx⟩ K) (q : okF dr l.length (fp ⟨sl,hp,nx⟩ (.load a p)) = true:=by rfl) : OpsK P T base ops dr (⟨some t,.load a p,ty,pos,af,g⟩::l) ⟨sl,hp,nx⟩ K:=by
  simp only [Prod.mk.injEq] at b;obtain ⟨u,c,s,f,o,k⟩:=b;exact qro w x u c s f o k h q
theorem Qz {α : Type} {x : Operand} {a : TypeId} {i : TI} {es : Nat} {xs : List α} {enc : α→List DV}
    (b : (Qp ops ⟨sl,hp,nx⟩ ⟨some t,.call {callee:=.builtin .len,args:=#[x],argTypes:=#[a]},ty,pos,af,g⟩,T a,i.kind,AS.ev ⟨sl,hp,nx⟩ x) = (some true,some i,.slice,some (.d (.sl es (xs.map enc)))))
    (h : OpsK P T base ops dr l ⟨(t,.d (.int .i64 (xs.length : Int)))::sl,hp,nx⟩ K) : OpsK P T base ops dr (⟨some t,.call {callee:=.builtin .len,args:=#[x],argTypes:=#[a]},ty,pos,af,g⟩::l) ⟨sl,hp,nx⟩ K:=by
  simp only [Prod.mk.injEq] at b;obtain ⟨k,f,c,j⟩:=b;exact qjm k f c j h
theorem Q4 {c : Call} {f : FuncId} {ds : List DV} {r : DV} {a : List V} (b : Pure P T f ds r) (j : (Qp ops ⟨sl,hp,nx⟩ ⟨some t,.call c,ty,pos,af,g⟩,callee ⟨sl,hp,nx⟩ c,Kq hp a,a.all V.isD) = (some true,some (f,a),some ds,true))
    (h : OpsK P T base ops dr l ⟨(t,.d r)::sl,hp,nx⟩ K) (p : okF dr l.length (fpC a) = true:=by rfl) : OpsK P T base ops dr (⟨some t,.call c,ty,pos,af,g⟩::l) ⟨sl,hp,nx⟩ K:=by
  simp only [Prod.mk.injEq] at j;obtain ⟨o,m,k,n⟩:=j;exact q2s a b o m k (.inl n) h p
theorem Q8 {st : AS} {b : List ResultVar} {r : DV} (v : V) (a : (resV T st b,toD st.hp 8 v) = (some v,some r)) : (Ex.ret = .nor∨Ex.ret = .ret)∧∃ v c,resV T st b = some v∧toD st.hp 8 v = some c∧DLe c r:=by
  simp only [Prod.mk.injEq] at a;exact ⟨.inr rfl,v,r,a.1,a.2,.refl _⟩
theorem qc {id : Nat} {ops : Array Oper} {b : Code} {cs : List Code} {st : AS} {K : Ex→AS→Prop} (h : OpsK P T base ops none ops.toList st (fun st'=>RunK P T base (b::cs) st' K)) : RunK P T base (.seq (.region id ops false) b::cs) st K:=qf (Q0 h)
theorem qt {a ops : Array Oper} {id : Nat} {b : Code} {cs : List Code} {st : AS} {K : Ex→AS→Prop} (h : OpsK P T base ops none ops.toList st (fun st'=>RunK P T base (b::cs) st' K)) : OpsK P T base a dr [] st (fun st'=>RunK P T base (.seq (.region id ops false) b::cs) st' K):=qa (qf (Q0 h))
theorem qx {a : Array Oper} {cs : List Code} {st : AS} {K : Ex→AS→Prop} (h : K .ret st) : OpsK P T base a dr [] st (fun st'=>RunK P T base (.ret::cs) st' K):=qa (Uu h)
theorem Q1 {a : Array Oper} {st : AS} {K : Ex→AS→Prop} (h : K .nor st) : OpsK P T base a dr [] st (fun st'=>RunK P T base [] st' K):=qa (Qd h)
theorem Ka {dst : Option Tmp} {c : Call} {f : FuncId} {j : List V} {hp0 m : List (Nat × Blk)} {k s : Nat} {vR : V} (o p : List (Nat × Nat)) (r : List V) (t : V) (n : Nat) (a : List (Nat × Blk)) (b : Nat) (he : K9 P T f j hp0 k vR m s)
    (h : OpsK P T base ops none l ((⟨sl,a,b⟩ : AS).putD dst t) K)
    (w : Qp ops ⟨sl,hp,nx⟩ ⟨dst,.call c,ty,pos,af,g⟩ = some true:=by exact rfl) (z : callee ⟨sl,hp,nx⟩ c = some (f,r):=by exact rfl) (q : r.length = j.length:=by exact rfl)
    (x : wkOk 0 o [] [] hp0 k = true:=by exact rfl)
    (v : WkL ⟨Y5 0 r,hp,nx⟩ (rho o) [] [] k (Y5 0 j):=by
      repeat' first | exact trivial | refine And.intro (Exists.intro _ (And.intro rfl ?_)) ?_ | exact Wv.d (DLe.refl _) | exact Wv.ref rfl qo (ltd rfl) | exact Wv.mp rfl qo (ltd rfl) | exact Wv.hs rfl qo (ltd rfl) | exact Wv.d (DLe.nil _) | refine qc4 ?_ | refine qfp ?_ | refine q22 ?_ | refine WvL.cons ?_ ?_ | exact WvL.nil | exact Wv.dref _ _ | exact Wv.yld rfl qo (ltd rfl))
    (b1 : WkH ⟨Y5 0 r,hp,nx⟩ (rho o) [] [] k hp0:=by
      repeat' first | exact trivial | refine And.intro (And.intro (ltd rfl) (Or.inr (And.intro qo (Exists.intro _ (And.intro rfl ?_))))) ?_ | exact Wb.dat _ _ | exact Wb.mp _ | refine Ji ?_ | refine qfm ?_ | refine WvC.cons ?_ rfl ?_ | exact WvC.nil | exact Wv.d (DLe.refl _) | exact Wv.ref rfl qo (ltd rfl) | exact Wv.mp rfl qo (ltd rfl) | exact Wv.hs rfl qo (ltd rfl) | exact Wv.d (DLe.nil _))
    (y : wkOk 0 p [] [] (a.take n) b = true:=by exact rfl)
    (u : WkL ⟨[(0,vR)],m,s⟩ (rho p) [] [] b [(0,t)]:=by
      repeat' first | exact trivial | refine And.intro (Exists.intro _ (And.intro rfl ?_)) ?_ | exact Wv.d (DLe.refl _) | exact Wv.ref rfl qo (ltd rfl) | exact Wv.mp rfl qo (ltd rfl) | exact Wv.hs rfl qo (ltd rfl) | exact Wv.d (DLe.nil _) | refine qc4 ?_ | refine qfp ?_ | refine q22 ?_ | refine WvL.cons ?_ ?_ | exact WvL.nil | exact Wv.dref _ _ | exact Wv.yld rfl qo (ltd rfl))
    (b3 : WkH ⟨[(0,vR)],m,s⟩ (rho p) [] [] b (a.take n):=by
      repeat' first | exact trivial | refine And.intro (And.intro (ltd rfl) (Or.inr (And.intro qo (Exists.intro _ (And.intro rfl ?_))))) ?_ | exact Wb.dat _ _ | exact Wb.mp _ | refine Ji ?_ | refine qfm ?_ | refine WvC.cons ?_ rfl ?_ | exact WvC.nil | exact Wv.d (DLe.refl _) | exact Wv.ref rfl qo (ltd rfl) | exact Wv.mp rfl qo (ltd rfl) | exact Wv.hs rfl qo (ltd rfl) | exact Wv.d (DLe.nil _))
    (hb : q73 o p k s nx b = true:=by exact rfl)
    (hold : OldL o k hp (a.take n) a:=by repeat' first | exact trivial | refine And.intro (Or.inl rfl) ?_ | refine And.intro (Or.inr (And.intro rfl rfl)) ?_) :
    OpsK P T base ops none (⟨dst,.call c,ty,pos,af,g⟩::l) ⟨sl,hp,nx⟩ K:=
  Jy o p r t (a.take n) a b he w z q (Yh o [] [] x v b1) (Yh p [] [] y u b3) hb hold h
end
inductive WvR (st : AS) (ρ : Nat→Nat) (fz ph : List Nat) (nx : Nat) : List (List V)→List (List V)→Prop
  | nil : WvR st ρ fz ph nx [] []
  | cons {c d : List V} {cs ds : List (List V)} : WvC st ρ fz ph nx c d→WvR st ρ fz ph nx cs ds→WvR st ρ fz ph nx (c::cs) (d::ds)
theorem WvR.len {st : AS} {ρ : Nat→Nat} {fz ph : List Nat} {nx : Nat} {cs ds : List (List V)} (h : WvR st ρ fz ph nx cs ds) : cs.length = ds.length:=by
  induction h with
  | nil=>rfl
  | cons _ _ ih=>simp [ih]
theorem WvR.get {st : AS} {ρ : Nat→Nat} {fz ph : List Nat} {nx : Nat} {cs ds : List (List V)} (h : WvR st ρ fz ph nx cs ds) : ∀ (j : Nat) (c d : List V),cs[j]? = some c→ds[j]? = some d→WvC st ρ fz ph nx c d:=by
  induction h with
  | nil=>intro i x y h;simp at h
  | cons h1 _ ih=>
    intro i x y a b
    cases i with
    | zero=>simp at a b;subst a;subst b;exact h1
    | succ i=>exact ih i x y (by simpa using a) (by simpa using b)
theorem q10i {st : AS} {ρ : Nat→Nat} {fz ph : List Nat} {nx es : Nat} {cs ds : List (List V)} (h : WvR st ρ fz ph nx cs ds) : Wb st ρ fz ph nx (.cel es cs) (.cel es ds):=
  .cel h.len fun i x y a b=>⟨(h.get i x y a b).len,(h.get i x y a b).get⟩
theorem q10j {st : AS} {ρ : Nat→Nat} {fz ph : List Nat} {nx es : Nat} {cs : List (List DV)} {ds : List (List V)} (h : WvR st ρ fz ph nx (cs.map (·.map .d)) ds) : Wb st ρ fz ph nx (.dat es cs) (.cel es ds):=by
  refine .datcel (by simpa using h.len) fun i x y b g=>?_;have a:=h.get i (x.map .d) y (by simp [b]) g;refine ⟨by simpa using a.len,fun j c d f hd=>a.get j (.d c) d (by simp [f]) hd⟩
theorem wkA {base : Nat} {st st' : AS} (l : List (Nat × Nat)) (fz ph : List Nat) (a : wkOk base l fz ph st'.hp st'.nx = true:=by exact rfl)
    (hs : WkL st (rho l) fz ph st'.nx st'.sl:=by
      repeat' first | exact trivial | refine And.intro (Exists.intro _ (And.intro rfl ?_)) ?_ | exact Wv.d (DLe.refl _) | exact Wv.ref rfl qo (ltd rfl) | exact Wv.mp rfl qo (ltd rfl) | exact Wv.hs rfl qo (ltd rfl) | exact Wv.d (DLe.nil _) | exact Wv.nil qo (ltd rfl) | exact qmu rfl rfl qo | refine qc4 ?_ | refine q10p ?_ | refine qfp ?_ | refine q10q ?_ | refine q22 ?_ | refine WvL.cons ?_ ?_ | exact WvL.nil | exact Wv.dref _ _ | exact Wv.yld rfl qo (ltd rfl))
    (b : WkH st (rho l) fz ph st'.nx st'.hp:=by
      repeat' first | exact trivial | refine And.intro (And.intro (ltd rfl) (Or.inr (And.intro qo (Exists.intro _ (And.intro rfl ?_))))) ?_ | refine And.intro (And.intro (ltd rfl) (Or.inl (And.intro qo (Exists.intro _ (And.intro qo rfl))))) ?_ | exact Wb.dat _ _ | exact Wb.mp _ | refine Ji ?_ | refine qfm ?_ | refine q10i ?_ | refine q10j ?_ | refine WvR.cons ?_ ?_ | exact WvR.nil | refine q10k ?_ | refine WvS.cons rfl ?_ ?_ | exact WvS.nil | refine WvC.cons ?_ rfl ?_ | exact WvC.nil | exact Wv.d (DLe.refl _) | exact Wv.ref rfl qo (ltd rfl) | exact Wv.mp rfl qo (ltd rfl) | exact Wv.hs rfl qo (ltd rfl) | exact Wv.d (DLe.nil _) | exact Wv.nil qo (ltd rfl) | exact qmu rfl rfl qo | refine q22 ?_ | refine qc4 ?_ | refine WvL.cons ?_ ?_ | exact WvL.nil | exact Wv.yld rfl qo (ltd rfl)) : WkE base st st':=wkE l fz ph a hs b
theorem qp {st : AS} {ρ : Nat→Nat} {fz ph : List Nat} {nx t : Nat} {x : DV} (h : st.get t = some (.d x)) : ∃ v,st.get t = some v∧Wv st ρ fz ph nx v (.d x):=⟨_,h,.d (.refl _)⟩
theorem Qn {st : AS} {ρ : Nat→Nat} {fz ph : List Nat} {nx n es : Nat} {xs : List (List DV)} (d : Nat.blt n nx = true) (a : st.blk (ρ n) = some (.dat es xs)) (c : n ∉ ph:=by decide) :
    n < nx∧((n∈ph∧∃ e,e≠0∧(Blk.dat es xs) = .dat e [])∨(n ∉ ph∧∃ b,st.blk (ρ n) = some b∧Wb st ρ fz ph nx b (.dat es xs))):=⟨ltd d,.inr ⟨c,_,a,.dat _ _⟩⟩
abbrev q6 : Option (List Nat) × List Nat:=(some [],[])
abbrev qu (n : Nat) : Option (List Nat) × List Nat:=(some [n],[])
abbrev Qs (n : Nat) : Option (List Nat) × List Nat:=(some [n],[n])
end Go.Am
namespace Go.Am
open Go
inductive DLeR : List (List DV)→List (List DV)→Prop
  | nil : DLeR [] []
  | cons {x y : List DV} {xs ys : List (List DV)} : DLeL x y→DLeR xs ys→DLeR (x::xs) (y::ys)
theorem qh5 {es : Nat} {xs ys : List (List DV)} (h : DLeR xs ys) : DLe (.sl es xs) (.sl es ys):=by
  have f : xs.length = ys.length:=by
    induction h with
    | nil=>rfl
    | cons _ _ ih=>simp [ih]
  have g : ∀ (i : Nat) (x y : List DV),xs[i]? = some x→ys[i]? = some y→DLeL x y:=by
    clear f
    induction h with
    | nil=>intro i x y a;simp at a
    | cons h1 _ ih=>
      intro i x y a b
      cases i with
      | zero=>simp at a b;subst a;subst b;exact h1
      | succ i=>exact ih i x y (by simpa using a) (by simpa using b)
  exact .sl f (fun i x y a b=>(g i x y a b).len) fun i x y j c d a b k hd=>(g i x y a b).get j c d k hd
theorem qoy {α : Type} {b es : Nat} {n : Int} {z : α} {zs : List α} {zc : List DV} {enc : α→List DV} (a : mks b n z = some zs) (h : DLeL zc (enc z)) : DLe (.sl es (zs.map fun _=>zc)) (.sl es (zs.map enc)):=by
  unfold mks at a;split at a
  · cases a;generalize n.toNat = m;refine qh5 ?_
    induction m with
    | zero=>exact .nil
    | succ m ih=>rw [List.replicate_succ,List.map_cons,List.map_cons];exact .cons h ih
  · cases a
structure q3a (ag : Bool) (ks : List (Option IntKind)) {α : Type} [DecidableEq α] (ek : α→DV) : Prop where
  agg : ∀ k,Zr (ek k) = ag
  len : ∀ k,(cellsD (ek k)).length = ks.length
  eq : ∀ a b,Kf ks (cellsD (ek a)) (cellsD (ek b)) = some (decide (a = b))
theorem key2 {k j : IntKind} : q3a true [some k,some j] (fun n : Int × Int=>DV.agg [.int k n.1,.int j n.2]):=
  ⟨fun _=>rfl,fun _=>rfl,fun a b=>by
    obtain ⟨d,f⟩:=a;obtain ⟨b1,c⟩:=b
    simp [cellsD,Kf,q27];rfl⟩
section
variable {α β : Type} [DecidableEq α]
def Z5 (z : β) (k : α) : List (α × β)→β
  | []=>z
  | (a,v)::r=>if k = a then v else Z5 z k r
def qea (k : α) : List (α × β)→Bool
  | []=>false
  | (a,_)::r=>if k = a then true else qea k r
def Ub (k : α) (v : β) : List (α × β)→List (α × β)
  | []=>[(k,v)]
  | (a,w)::r=>if k = a then (k,v)::r else (a,w)::Ub k v r
abbrev mrow (ek : α→DV) (ev : β→DV) (es : List (α × β)) : List (DV × DV):=es.map fun e=>(ek e.1,ev e.2)
variable {ag : Bool} {ks : List (Option IntKind)} {ek : α→DV} {ev : β→DV}
def q2q (k : α) : List (α × β)→Option Nat
  | []=>none
  | (a,_)::r=>if k = a then some 0 else (q2q k r).map (· + 1)
theorem qe9 (b : q3a ag ks ek) (k : α) : ∀ es : List (α × β),Zk ag ks (ek k) (mrow ek ev es) = some (q2q k es)
  | []=>rfl
  | (a,v)::r=>by
    have c:=qe9 b k r
    simp only [mrow,List.map_cons,Zk,b.agg,and_self,if_true,b.eq,q2q] at c ⊢
    by_cases h : k = a
    · simp [h]
    · simp only [h,decide_false,if_false,c]
      cases q2q k r <;> rfl
theorem qir (a : q3a ag ks ek) (k : α) : U9 ag ks (ek k) = true:=by
  simp [U9,a.agg,a.len]
theorem qr1 (b : q3a ag ks ek) (z : β) (k : α) (es : List (α × β)) : mget ag ks (ev z) (ek k) (mrow ek ev es) = some (ev (Z5 z k es),qea k es):=by
  unfold mget;rw [qe9 b]
  induction es with
  | nil=>rfl
  | cons e r ih=>
    obtain ⟨a,v⟩:=e;simp only [q2q,Z5,qea];by_cases h : k = a
    · simp [h]
    · simp only [h,if_false]
      cases hp : q2q k r with
      | none=>rw [hp] at ih;simpa using ih
      | some j=>rw [hp] at ih;simpa using ih
theorem qr6 (b : q3a ag ks ek) (k : α) (v : β) (es : List (α × β)) : mput ag ks (ek k) (ev v) (mrow ek ev es) = some (mrow ek ev (Ub k v es)):=by
  unfold mput;rw [qe9 b]
  induction es with
  | nil=>rfl
  | cons e r ih=>
    obtain ⟨a,w⟩:=e;simp only [q2q,Ub];by_cases h : k = a
    · simp [h]
    · simp only [h,if_false]
      cases hp : q2q k r with
      | none=>rw [hp] at ih;simp at ih ⊢;exact ih
      | some j=>rw [hp] at ih;simp at ih ⊢;exact ih
end
section
variable {P : Program} {T : Tab} {base : Nat} {ops : Array Oper} {dr : Dr} {l : List Oper} {sl : List (Nat × V)} {hp : List (Nat × Blk)} {nx : Nat} {K : AS→Prop} {ty : TypeId} {pos : String} {af : Array Edge} {t : Tmp} {g : Option (Nat × Bool)}
variable {α β : Type} [DecidableEq α] {ek : α→DV} {ev : β→DV} {mt : TypeId} {i : TI} {ks : List (Option IntKind)} {n : Nat} {es : List (α × β)}
theorem qrp {x a : Operand} (c : q3a i.eagg ks ek) (z : β) (k : α) (m : Qp ops ⟨sl,hp,nx⟩ ⟨some t,.lookup mt x a false,ty,pos,af,g⟩ = some true) (f : T mt = some i) (b : i.keys = some ks) (q : i.ezero = [ev z])
    (o : AS.ev ⟨sl,hp,nx⟩ x = some (.mp n)) (j : AS.ev ⟨sl,hp,nx⟩ a = some (.d (ek k))) (hb : find hp n = some (.mp (mrow ek ev es)))
    (h : OpsK P T base ops dr l ⟨(t,.d (ev (Z5 z k es)))::sl,hp,nx⟩ K) (p : okO dr l.length ⟨sl,hp,nx⟩ (.lookup mt x a false) ⟨sl,hp,nx⟩ = true:=by rfl) : OpsK P T base ops dr (⟨some t,.lookup mt x a false,ty,pos,af,g⟩::l) ⟨sl,hp,nx⟩ K:=by
  refine Ye m (v:=.d (ev (Z5 z k es))) (st1:=⟨sl,hp,nx⟩) ?_ h p;simp only [opFn,f,o,j,b,AS.blk,hb,q,qir c,if_true,qr1 c,Option.map_some,Q3]
theorem qrr {m a y : Operand} (c : q3a i.eagg ks ek) (k : α) (v : β) (r : Qp ops ⟨sl,hp,nx⟩ ⟨none,.mapUpdate mt m a y,ty,pos,af,g⟩ = some true) (f : T mt = some i) (b : i.keys = some ks)
    (p : AS.ev ⟨sl,hp,nx⟩ m = some (.mp n)) (q : AS.ev ⟨sl,hp,nx⟩ a = some (.d (ek k))) (j : AS.ev ⟨sl,hp,nx⟩ y = some (.d (ev v))) (hb : find hp n = some (.mp (mrow ek ev es))) (o : Yd (ev v) = true)
    (h : OpsK P T base ops dr l ⟨sl,repl hp n (.mp (mrow ek ev (Ub k v es))),nx⟩ K) (s : okO dr l.length ⟨sl,hp,nx⟩ (.mapUpdate mt m a y) ⟨sl,repl hp n (.mp (mrow ek ev (Ub k v es))),nx⟩ = true:=by rfl) : OpsK P T base ops dr (⟨none,.mapUpdate mt m a y,ty,pos,af,g⟩::l) ⟨sl,hp,nx⟩ K:=by
  refine Ye r (v:=.dead) (st1:=⟨sl,repl hp n (.mp (mrow ek ev (Ub k v es))),nx⟩) ?_ h s;simp only [opFn,f,p,q,j,b,AS.blk,hb,qir c,o,and_self,if_true,qr6 c,Option.map_some];rfl
theorem qrq {α : Type} {c ln : Operand} {a : TypeId} {i : TI} {k j : IntKind} {n : Int} {z : α} {zs : List α} (b : mks i.ebytes n z = some zs) (q : Qp ops ⟨sl,hp,nx⟩ ⟨some t,.makeSlice a ln c,ty,pos,af,g⟩ = some true) (s : T a = some i) (o : i.kind = .slice)
    (p : AS.ev ⟨sl,hp,nx⟩ ln = some (.d (.int k n))) (v : AS.ev ⟨sl,hp,nx⟩ c = some (.d (.int j n))) (u : find hp nx = none)
    (h : OpsK P T base ops dr l ⟨(t,.d (.sl i.esize (zs.map fun _=>i.ezero)))::sl,hp,nx + 1⟩ K) (r : okF dr l.length (fp ⟨sl,hp,nx⟩ (.makeSlice a ln c)) = true:=by rfl) : OpsK P T base ops dr (⟨some t,.makeSlice a ln c,ty,pos,af,g⟩::l) ⟨sl,hp,nx⟩ K:=by
  unfold mks at b;split at b
  · rename_i f;cases b;have m : n.toNat = (List.replicate n.toNat i.ezero).length:=by simp
    refine Zt (es:=i.esize) (len:=n.toNat) (List.replicate n.toNat i.ezero) q ?_ m rfl u (by simpa using h) r;simp only [opFn,s,p,v];rw [qm ⟨o,f.1,q0,by have:=f.2;simpa [room] using this⟩];rfl
  · cases b
end
end Go.Am
