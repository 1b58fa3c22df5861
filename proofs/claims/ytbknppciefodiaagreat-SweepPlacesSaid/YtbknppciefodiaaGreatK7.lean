/- Lf3 Lf4 Lf5 Lf6 -/
import Derived.Test.YtbknppciefodiaaGreatK6
namespace Go.Am
open Go
theorem RunK.toEv {P : Program} {T : Tab} {base : Nat} {c : Code} {st : AS} {K : Ex→AS→Prop} (h : RunK P T base [c] st K) : ∃ ex st',Y6 P T base c st ex st'∧K ex st':=q5r h
section
variable {P : Program} {T : Tab} {base : Nat} {ops : Array Oper} {l : List Oper} {sl : List (Nat × V)} {hp : List (Nat × Blk)} {nx : Nat} {K : AS→Prop} {ty : TypeId} {pos : String} {af : Array Edge} {dst : Option Tmp} {g : Option (Nat × Bool)}
theorem q4e {β : Type} {c : Call} {f : FuncId} {fn : Func} {k : Code} (j : List V) (E : β→Prop) (S : β→AS) (r : Qz ops ⟨sl,hp,nx⟩ ⟨dst,.call c,ty,pos,af,g⟩ = some true) (u : callee ⟨sl,hp,nx⟩ c = some (f,j))
    (q : P.funcs[f]? = some fn) (hb : fn.body = some k) (a : (fn.name == "runtime.NumGoroutine") = false) (d : codeOk fn.ntmps k = true) (y : Nat.ble j.length fn.ntmps = true)
    (h : RunK P T nx [k] ⟨Yg 0 j,hp,nx⟩ (fun ex st'=>(ex = .nor∨ex = .ret)∧∃ v,resV T st' fn.results.toList = some v∧∃ b,E b∧WkE base ((⟨sl,st'.hp,st'.nx⟩ : AS).putD dst v) (S b)))
    (n : ∀ b,E b→OpsK P T base ops none l (S b) K) : OpsK P T base ops none (⟨dst,.call c,ty,pos,af,g⟩::l) ⟨sl,hp,nx⟩ K:=by
  obtain ⟨ex,st',e,x,v,s,b,m,t⟩:=h.toEv;obtain ⟨st2,o,p⟩:=n b m;obtain ⟨ρ,fz,ph,w⟩:=t;exact ⟨st2,.callS r rfl u (.mk q hb a d (by simpa using y) e x s) (.wk w o),p⟩
theorem q6m {β : Type} {c : Call} {gf : Operand} {n : Nat} {x : List V} {s : List (Nat × V)} {f : List Tmp} {assign body A B : Code} (E : β→Prop) (S : β→AS) (hA : assign = A) (hB : body = B) (hg : Qz ops ⟨sl,hp,nx⟩ ⟨dst,.call c,ty,pos,af,g⟩ = some true)
    (p : c.callee = .value gf) (t : AS.ev ⟨sl,hp,nx⟩ gf = some (.yld n)) (y : evL (AS.ev ⟨sl,hp,nx⟩) c.args.toList = some x) (hb : find hp n = some (.loop s f A B .ready none)) (hl : f.length = x.length)
    (h : RunK P T nx [assign] ⟨q28 s f x,hp,nx⟩ (fun ex st1=>ex = .nor∧∃ q,find st1.hp n = some (.loop q f A B .ready none)∧
      RunK P T nx [body] (st1.setBlk n (.loop q f A B .busy none)) (fun ex st2=>∃ j,find st2.hp n = some (.loop j f A B .busy none)∧match ex with
        | .nor=>∃ b,E b∧WkE base ((⟨sl,repl st2.hp n (.loop j f A B .ready none),st2.nx⟩ : AS).putD dst (.d (.bool true))) (S b)
        | ex=>OpsK P T base ops none l ((⟨sl,repl st2.hp n (.loop j f A B .done ex.code),st2.nx⟩ : AS).putD dst (.d (.bool false))) K)))
    (hr : ∀ b,E b→OpsK P T base ops none l (S b) K) : OpsK P T base ops none (⟨dst,.call c,ty,pos,af,g⟩::l) ⟨sl,hp,nx⟩ K:=by
  subst hA hB;obtain ⟨ag,st1,e1,rfl,q,u,k⟩:=h.toEv;obtain ⟨ex,st2,e2,j,v,r⟩:=k.toEv
  have key : ∀ a,Kt P T base ops none l ((⟨sl,repl st2.hp n (.loop j f assign body (if ex = .nor then .ready else .done) ex.code),st2.nx⟩ : AS).putD dst (.d (.bool (decide (ex = .nor))))) a→Kt P T base ops none (⟨dst,.call c,ty,pos,af,g⟩::l) ⟨sl,hp,nx⟩ a:=
    fun a h3=>.callY hg rfl p t y hb hl e1 u e2 v h3
  cases ex with
  | nor=>
    obtain ⟨b,z,ρ,fz,ph,w⟩:=r;obtain ⟨a,o,m⟩:=hr b z;exact ⟨a,key a (.wk w o),m⟩
  | exit i=>
    obtain ⟨a,o,m⟩:=r;exact ⟨a,key a o,m⟩
  | ret=>
    obtain ⟨a,o,m⟩:=r;exact ⟨a,key a o,m⟩
end
section
variable {P : Program} {T : Tab} {base : Nat} {cs : List Code} {sl : List (Nat × V)} {hp : List (Nat × Blk)} {nx : Nat} {K : Ex→AS→Prop}
def qfc (P : Program) (T : Tab) (base : Nat) (cs : List Code) (K : Ex→AS→Prop) : Ex→AS→Prop:=qc7 (fun st'=>RunK P T base cs st' K) K
theorem q7f {k : Operand} {m : Array Tmp} {assign body : Code} {f : FuncId} {fn : Func} {l : Code} (a : List V)
    (q : AS.ev ⟨sl,hp,nx⟩ k = some (.fn f a)∨∃ ds,AS.ev ⟨sl,hp,nx⟩ k = some (.d (.fn f ds))∧a = ds.map .d)
    (o : P.funcs[f]? = some fn) (hb : fn.body = some l) (g : (fn.name == "runtime.NumGoroutine") = false) (j : codeOk fn.ntmps l = true) (u : Nat.ble (a.length + 1) fn.ntmps = true)
    (h : ∀ A B,assign = A→body = B→RunK P T (nx + 1) [l] ⟨Yg 0 (.yld nx::a),(nx,.loop sl m.toList A B .ready none)::hp,nx + 1⟩ (fun c b=>(c = .nor∨c = .ret)∧∃ v,resV T b fn.results.toList = some v∧
      ∃ (s : List (Nat × V)) (ls : LoopState) (ex : Ex),find b.hp nx = some (.loop s m.toList A B ls ex.code)∧ls≠.busy∧qfc P T base cs K ex ⟨sl,repl b.hp nx .dead,b.nx⟩)) :
    RunK P T base (.rangeFunc k m assign body::cs) ⟨sl,hp,nx⟩ K:=by
  obtain ⟨c,b,e,t,v,r,s,ls,ex,w,p,n⟩:=(h assign body rfl rfl).toEv;exact ⟨ex,_,.rangeF (pe:=ex.code) q (.mk o hb g j (by simpa using u) e t r) w p rfl,n⟩
theorem q5m {st : AS} (h : RunK P T base cs st K) : qfc P T base cs K .nor st:=h
theorem qci {st : AS} (h : K .ret st) : qfc P T base cs K .ret st:=h
end
inductive WvS (st : AS) (ρ : Nat→Nat) (fz ph : List Nat) (nx : Nat) : List (Nat × V)→List (Nat × V)→Prop
  | nil {s : List (Nat × V)} : WvS st ρ fz ph nx s []
  | cons {s s' : List (Nat × V)} {t : Nat} {v v' : V} : find s t = some v→Wv st ρ fz ph nx v v'→WvS st ρ fz ph nx s s'→WvS st ρ fz ph nx s ((t,v')::s')
theorem q16g {st : AS} {ρ : Nat→Nat} {fz ph : List Nat} {nx : Nat} {s b : List (Nat × V)} {c : List Tmp} {as f : Code} {d : LoopState} {pe : Option Code} (h : WvS st ρ fz ph nx s b) : Wb st ρ fz ph nx (.loop s c as f d pe) (.loop b c as f d pe):=by
  refine .loop fun t g a=>?_
  induction h with
  | nil=>simp [find] at a
  | @cons b t' v v'' h1 h2 _ ih=>
    simp only [find] at a
    cases hb : Nat.beq t' t with
    | true=>rw [hb] at a;cases a;obtain rfl:=Nat.eq_of_beq_eq_true hb;exact ⟨v,h1,h2⟩
    | false=>rw [hb] at a;exact ih a
theorem qpy {α : Type} {enc : α→List DV} {es : Nat} (a : ∀ x,(enc x).length = es) {xs : List α} {k : Nat} {v : α} (h : xs[k]? = some v) : sub (xs.flatMap enc) (k * es) es = some (enc v):=by
  induction xs generalizing k with
  | nil=>simp at h
  | cons x xs ih=>
    cases k with
    | zero=>
      simp at h;subst h;have:=a x;simp [sub,List.flatMap_cons,this]
    | succ k=>
      have b : xs[k]? = some v:=by simpa using h
      have:=ih b;unfold sub at this ⊢;have d:=a x;have c : (k + 1) * es = (enc x).length + k * es:=by rw [Nat.succ_mul,d];omega
      rw [List.flatMap_cons,c];split at this
      · rename_i f;rw [qr (by rw [List.length_append];omega),← List.drop_drop,List.drop_left];exact this
      · cases this
theorem q14w {α : Type} {enc : α→List DV} {es : Nat} (a : ∀ x,(enc x).length = es) {xs : List α} {k : Nat} {v : α} (h : k < xs.length) : splice (xs.flatMap enc) (k * es) (enc v) = (xs.set k v).flatMap enc:=by
  induction xs generalizing k with
  | nil=>simp at h
  | cons x xs ih=>
    have b:=a x;have c:=a v
    cases k with
    | zero=>
      simp only [splice,Nat.zero_mul,List.take_zero,List.nil_append,Nat.zero_add,List.flatMap_cons,List.set_cons_zero];rw [c,← b,List.drop_left]
    | succ k=>
      have:=ih (k:=k) (by simpa using h);simp only [splice] at this ⊢;have d : (k + 1) * es = (enc x).length + k * es:=by rw [Nat.succ_mul,b];omega
      rw [List.flatMap_cons,List.set_cons_succ,List.flatMap_cons,d,← this];rw [List.take_length_add_append,show (enc x).length + k * es + (enc v).length = (enc x).length + (k * es + (enc v).length) by omega,← List.drop_drop,List.drop_left];simp [List.append_assoc]
theorem qub {α : Type} {enc : α→List DV} {es : Nat} (a : ∀ x,(enc x).length = es) (xs : List α) : (xs.flatMap enc).length = xs.length * es:=by
  induction xs with
  | nil=>simp
  | cons x xs ih=>rw [List.flatMap_cons,List.length_append,a,ih,List.length_cons,Nat.succ_mul];omega
def idxA {α : Type} (n : Nat) (xs : List α) (i : Int) : Option α:=if 0≤i∧i < n then xs[i.toNat]? else none
def andI (k : IntKind) (x y : Int) : Int:=k.wrap (BitVec.ofInt k.bits x &&& BitVec.ofInt k.bits y).toNat
def xorI (k : IntKind) (x y : Int) : Int:=k.wrap (BitVec.ofInt k.bits x ^^^ BitVec.ofInt k.bits y).toNat
section
variable {P : Program} {T : Tab} {base : Nat} {ops : Array Oper} {dr : Dr} {l : List Oper} {sl : List (Nat × V)} {hp : List (Nat × Blk)} {nx : Nat} {K : AS→Prop} {ty : TypeId} {pos : String} {af : Array Edge} {t : Tmp} {g : Option (Nat × Bool)}
theorem q157 {α β : Type} (f : α→β) (cs : List α) (j n : Nat) : sub (cs.map f) j n = (sub cs j n).map (·.map f):=by
  unfold sub;simp only [List.length_map];split
  · simp [List.map_take,List.map_drop]
  · rfl
theorem qdb {α : Type} {n : Nat} {xs : List α} {i : Int} {v : α} (h : idxA n xs i = some v) : 0≤i∧i < n∧xs[i.toNat]? = some v:=by
  unfold idxA at h;split at h
  · rename_i a;exact ⟨a.1,a.2,h⟩
  · cases h
theorem qwr {α : Type} {x y : Operand} {a : TypeId} {i : TI} {k : IntKind} {n : Int} {enc : α→List DV} {v : α} (xs : List α) (w : V) (q : idxA i.len xs n = some v) (b : ∀ x,(enc x).length = i.esize) (j : Qz ops ⟨sl,hp,nx⟩ ⟨some t,.index a x y,ty,pos,af,g⟩ = some true) (p : T a = some i)
    (s : AS.ev ⟨sl,hp,nx⟩ x = some (.d (.agg (xs.flatMap enc)))) (o : AS.ev ⟨sl,hp,nx⟩ y = some (.d (.int k n))) (c : i.kind = .array) (r : pack i.eagg ((enc v).map .d) = some w)
    (h : OpsK P T base ops dr l ⟨(t,w)::sl,hp,nx⟩ K) : OpsK P T base ops dr (⟨some t,.index a x y,ty,pos,af,g⟩::l) ⟨sl,hp,nx⟩ K:=by
  obtain ⟨f,u,m⟩:=qdb q;refine Yk j (v:=w) (st1:=⟨sl,hp,nx⟩) ?_ h (Jn rfl);simp only [opFn,p,s,o,c,agD];rw [qr ⟨f,u⟩,q157,qpy b m];simp only [Option.map_some,r]
theorem q6k {α : Type} {x y : Operand} {a : TypeId} {i : TI} {k : IntKind} {n : Int} {m es : Nat} {v : α} {xs : List α} (p : idxA i.len xs n = some v) (f : Qz ops ⟨sl,hp,nx⟩ ⟨some t,.indexAddr a x y,ty,pos,af,g⟩ = some true) (o : T a = some i)
    (q : AS.ev ⟨sl,hp,nx⟩ x = some (.ref m es 0 0)) (j : AS.ev ⟨sl,hp,nx⟩ y = some (.d (.int k n))) (b : i.kind = .array)
    (h : OpsK P T base ops dr l ⟨(t,.ref m es 0 (n.toNat * i.esize))::sl,hp,nx⟩ K) : OpsK P T base ops dr (⟨some t,.indexAddr a x y,ty,pos,af,g⟩::l) ⟨sl,hp,nx⟩ K:=by
  obtain ⟨c,r,_⟩:=qdb p;exact Yk f (v:=.ref m es 0 (n.toNat * i.esize)) (st1:=⟨sl,hp,nx⟩) (by simp [opFn,q,j,o,q4d,b,c,r]) h (Jn rfl)
theorem qdn {α : Type} {p : Operand} {a : TypeId} {i : TI} {m es sz ln : Nat} {n : Int} {xs : List α} {enc : α→List DV} {v : α} (w : V) (k : idxA ln xs n = some v) (b : ∀ x,(enc x).length = sz) (f : Qz ops ⟨sl,hp,nx⟩ ⟨some t,.load a p,ty,pos,af,g⟩ = some true) (j : T a = some i)
    (q : AS.ev ⟨sl,hp,nx⟩ p = some (.ref m es 0 (n.toNat * sz))) (hb : find hp m = some (.dat es [xs.flatMap enc])) (hs : sz = i.size) (o : (q1e i.agg (enc v)).map .d = some w)
    (h : OpsK P T base ops dr l ⟨(t,w)::sl,hp,nx⟩ K) (c : okF dr l.length (fp ⟨sl,hp,nx⟩ (.load a p)) = true:=by rfl) : OpsK P T base ops dr (⟨some t,.load a p,ty,pos,af,g⟩::l) ⟨sl,hp,nx⟩ K:=
  qhl f j q hb rfl (by rw [← hs];exact qpy b (qdb k).2.2) o h c
theorem qnd {α : Type} {p x : Operand} {k : TypeId} {i : TI} {m es sz ln : Nat} {n : Int} {xs : List α} {enc : α→List DV} {v : α} (f : α) {u : V} (y : idxA ln xs n = some v) (a : ∀ x,(enc x).length = sz) (t : Qz ops ⟨sl,hp,nx⟩ ⟨none,.store k p x,ty,pos,af,g⟩ = some true) (w : T k = some i)
    (hp' : AS.ev ⟨sl,hp,nx⟩ p = some (.ref m es 0 (n.toNat * sz))) (z : AS.ev ⟨sl,hp,nx⟩ x = some u) (hb : find hp m = some (.dat es [xs.flatMap enc])) (hs : sz = i.size) (o : cellsOf u = (enc f).map .d) (s : (enc f).all Ym = true)
    (h : OpsK P T base ops dr l ⟨sl,repl hp m (.dat es [(xs.set n.toNat f).flatMap enc]),nx⟩ K) (r : okO dr l.length ⟨sl,hp,nx⟩ (.store k p x) ⟨sl,repl hp m (.dat es [(xs.set n.toNat f).flatMap enc]),nx⟩ = true:=by rfl) : OpsK P T base ops dr (⟨none,.store k p x,ty,pos,af,g⟩::l) ⟨sl,hp,nx⟩ K:=by
  have b:=Kh (qdb y).2.2;refine Yk t (v:=.dead) (st1:=⟨sl,repl hp m (.dat es [(xs.set n.toNat f).flatMap enc]),nx⟩) ?_ h r;have c : (cellsOf u).all Ko = true:=by rw [o,List.all_map];exact s
  have j : (cellsOf u).length = i.size:=by rw [o,List.length_map,a];exact hs
  have q : n.toNat * sz + i.size≤(xs.flatMap enc).length:=by
    rw [qub a,← hs,← Nat.succ_mul];exact Nat.mul_le_mul_right _ b
  simp only [opFn,w,hp',z,Js,AS.blk,hb,Nat.beq_refl];rw [qp (by simp [c,j])];simp only [List.getElem?_cons_zero];rw [qr q,o,qfd];simp only [q14w a b,AS.setBlk,List.set_cons_zero];rfl
theorem qf5 {α : Type} {st : AS} {ρ : Nat→Nat} {fz ph : List Nat} {nx n es : Nat} {w : Nat × Nat} {ys : List α} {enc : α→List DV} (a : w.1 + w.2≤ys.length) (hb : st.blk n = some (.dat es (ys.map enc))) (b : n∈fz) : Wv st ρ fz ph nx (.hs n es w.1 w.2) (.d (.sl es (((ys.drop w.1).take w.2).map enc))):=
  .frz hb b (by simpa using a) (by rw [List.map_take,List.map_drop]) rfl
theorem qrf {hp : List (Nat × Blk)} {a : List V} {ds C : List DV} (h : Kx hp a = some ds) : Kx hp (a ++ C.map .d) = some (ds ++ C):=by
  induction a generalizing ds with
  | nil=>
    simp [Kx] at h;subst h
    induction C with
    | nil=>rfl
    | cons c C ih=>
      simp only [List.nil_append,List.map_cons] at ih ⊢;simp only [Kx];rw [show toD hp 8 (.d c) = some c from rfl,ih]
  | cons v a ih=>
    simp only [Kx] at h;split at h <;> simp at h
    rename_i x l f b;subst h;simp only [List.cons_append,Kx,f,ih b]
theorem quc {a : List V} {C : List DV} : fpC (a ++ C.map .d) = fpC a:=by
  unfold fpC;have : (C.map V.d).all V.isD = true:=by rw [List.all_map];simp [V.isD]
  rw [List.all_append,this,Bool.and_true]
theorem Yn {c : Call} {f : FuncId} {C ds : List DV} {r : DV} (a : List V) (b : Pure P T f (ds ++ C) r) (j : Qz ops ⟨sl,hp,nx⟩ ⟨some t,.call c,ty,pos,af,g⟩ = some true) (k : callee ⟨sl,hp,nx⟩ c = some (f,a ++ C.map .d)) (hd : Kx hp a = some ds)
    (hs : (a.all V.isD = true∨r.scalar = true)) (h : OpsK P T base ops dr l ⟨(t,.d r)::sl,hp,nx⟩ K) (m : okF dr l.length (fpC a) = true:=by rfl) : OpsK P T base ops dr (⟨some t,.call c,ty,pos,af,g⟩::l) ⟨sl,hp,nx⟩ K:=by
  refine qnb j rfl k (qrf hd) ?_ b h (by rw [quc];exact m);rcases hs with hs | hs
  · left;rw [List.all_append,hs,Bool.true_and,List.all_map];simp [V.isD]
  · exact .inr hs
end
end Go.Am
namespace Go.Am
open Go
theorem Yp {base : Nat} {st st' : AS} (l : List (Nat × Nat)) (fz ph : List Nat) (g : wkOk base l fz ph st'.hp st'.nx = true) (hs : WkL st (rho l) fz ph st'.nx st'.sl) (q : WkH st (rho l) fz ph st'.nx st'.hp) : Wk base (rho l) fz ph st st':=by
  simp only [wkOk,Bool.and_eq_true,Nat.ble_eq,List.all_eq_true] at g;obtain ⟨⟨⟨⟨w,s⟩,p⟩,v⟩,o⟩:=g;refine ⟨?_,?_,?_,?_,?_,w,?_,?_⟩
  · exact fun t x h=>hs.get (J8 h)
  · exact fun n y h=>q.get (J8 h)
  · intro n m b c a k d j r;have:=o _ (J8 a);simp only [Bool.or_eq_true,Bool.and_eq_true,q6g,List.all_eq_true,Bool.not_eq_true'] at this;rcases this with h | h
    · exact absurd h d
    · have:=h.2 _ (J8 k);rcases this with (f | f) | f
      · exact absurd f j
      · rw [r] at f;simp at f
      · exact Nat.eq_of_beq_eq_true f
  · intro n b a d u;have:=o _ (J8 a);simp only [Bool.or_eq_true,Bool.and_eq_true,q6g,Bool.not_eq_true'] at this;rcases this with h | h
    · exact absurd h d
    · rw [q6g.2 u] at h;exact absurd h.1 qg
  · intro n a;unfold rho;split
    · rename_i m k;have:=s _ (J8 k);simp at this;omega
    · rfl
  · exact fun n a=>p n a
  · exact fun n a=>v n a
def q9f (l l3 : List (Nat × Nat)) (k k' nx nxN : Nat) : Bool:=
  (List.range k).all (fun i=>Nat.blt (rho l i) nx && Nat.beq (rho l3 (rho l i)) i) && (List.range nx).all (fun m=>(Nat.blt (rho l3 m) k && Nat.beq (rho l (rho l3 m)) m) || Nat.ble k' (rho l3 m)) && Nat.ble nx nxN
def OldL (l : List (Nat × Nat)) (k : Nat) (hp hpR : List (Nat × Blk)) : List (Nat × Blk)→Prop
  | []=>True
  | (m,b)::r=>(find hpR m = some b∨(find hp m = some b∧(List.range k).all (fun i=>!(Nat.beq (rho l i) m)) = true))∧OldL l k hp hpR r
theorem OldL.get {l : List (Nat × Nat)} {k : Nat} {hp a : List (Nat × Blk)} : ∀ {r : List (Nat × Blk)},OldL l k hp a r→∀ m b,(m,b)∈r→find a m = some b∨(find hp m = some b∧∀ i,i < k→rho l i≠m)
  | [],_,m,b,h=>by cases h
  | (m',b')::r,h,m,b,c=>by
    rcases List.mem_cons.1 c with e | c
    · cases e
      refine h.1.imp (fun x=>x) fun ⟨d,h2⟩=>⟨d,fun i hi e=>?_⟩
      have:=List.all_eq_true.1 h2 i (List.mem_range.2 hi)
      rw [e] at this;simp at this
    · exact OldL.get h.2 m b c
section
variable {P : Program} {T : Tab} {base : Nat} {ops : Array Oper} {l : List Oper} {sl : List (Nat × V)} {hp : List (Nat × Blk)} {nx : Nat} {K : AS→Prop} {ty : TypeId} {pos : String} {af : Array Edge} {dst : Option Tmp} {g : Option (Nat × Bool)}
theorem Ua {c : Call} {f : FuncId} {j : List V} {hp0 o : List (Nat × Blk)} {k r : Nat} {vR : V} (s y : List (Nat × Nat)) (v : List V) (x : V) (a q : List (Nat × Blk)) (d : Nat) (he : Ka P T f j hp0 k vR o r) (hg : Qz ops ⟨sl,hp,nx⟩ ⟨dst,.call c,ty,pos,af,g⟩ = some true) (hc : callee ⟨sl,hp,nx⟩ c = some (f,v)) (p : v.length = j.length)
    (t : Wk 0 (rho s) [] [] ⟨Yg 0 v,hp,nx⟩ ⟨Yg 0 j,hp0,k⟩) (u : Wk 0 (rho y) [] [] ⟨[(0,vR)],o,r⟩ ⟨[(0,x)],a,d⟩) (hb : q9f s y k r nx d = true) (hold : OldL s k hp a q)
    (h : OpsK P T base ops none l ((⟨sl,q,d⟩ : AS).putD dst x) K) : OpsK P T base ops none (⟨dst,.call c,ty,pos,af,g⟩::l) ⟨sl,hp,nx⟩ K:=by
  obtain ⟨st2,z,k2⟩:=h;refine ⟨st2,.callF hg rfl hc p t he u ⟨?_,?_,?_,?_,?_⟩ z,k2⟩
  · intro i hi;simp only [q9f,Bool.and_eq_true,List.all_eq_true,List.mem_range] at hb;have:=hb.1.1 i hi;exact ⟨by simpa [Nat.blt_eq] using this.1,Nat.eq_of_beq_eq_true this.2⟩
  · intro m w;simp only [q9f,Bool.and_eq_true,List.all_eq_true,List.mem_range,Bool.or_eq_true] at hb;rcases hb.1.2 m w with n | n
    · exact .inl ⟨by simpa [Nat.blt_eq] using n.1,Nat.eq_of_beq_eq_true n.2⟩
    · exact .inr (by simpa using n)
  · intro m w;cases w
  · exact fun m b n=>hold.get m b (J8 n)
  · simp only [q9f,Bool.and_eq_true] at hb;simpa using hb.2
end
theorem Ky {P : Program} {T : Tab} {f : FuncId} {fn : Func} {c : Code} {g : List V} {hp b : List (Nat × Blk)} {nx j : Nat} {vR : V} (k : P.funcs[f]? = some fn) (hb : fn.body = some c) (a : (fn.name == "runtime.NumGoroutine") = false) (d : codeOk fn.ntmps c = true) (n : Nat.ble g.length fn.ntmps = true)
    (h : RunK P T nx [c] ⟨Yg 0 g,hp,nx⟩ (fun ex st=>(ex = .nor∨ex = .ret)∧∃ v,resV T st fn.results.toList = some v∧WkE nx ⟨[(0,v)],st.hp,st.nx⟩ ⟨[(0,vR)],b,j⟩)) : Ka P T f g hp nx vR b j:=by
  obtain ⟨ex,st',e,m,v,l,ρ,fz,ph,w⟩:=q5r h;exact .wk (.mk k hb a d (by simpa using n) e m l) w
def shlK (k : IntKind) (x y : Int) : Option Int:=if y < 0 then none else some (k.wrap (x * 2 ^ (min y.toNat k.bits)))
section
variable {P : Program} {T : Tab} {base : Nat} {ops : Array Oper} {dr : Dr} {l : List Oper} {sl : List (Nat × V)} {hp : List (Nat × Blk)} {nx : Nat} {K : AS→Prop} {ty : TypeId} {pos : String} {af : Array Edge} {t : Tmp} {g : Option (Nat × Bool)}
theorem qx1 {x y : Operand} {f j : TypeId} {a b r : Int} {k o : IntKind} (c : shlK k a b = some r) (m : Qz ops ⟨sl,hp,nx⟩ ⟨some t,.binOp .shl f x y j,ty,pos,af,g⟩ = some true) (p : AS.ev ⟨sl,hp,nx⟩ x = some (.d (.int k a))) (n : AS.ev ⟨sl,hp,nx⟩ y = some (.d (.int o b)))
    (h : OpsK P T base ops dr l ⟨(t,.d (.int k r))::sl,hp,nx⟩ K) : OpsK P T base ops dr (⟨some t,.binOp .shl f x y j,ty,pos,af,g⟩::l) ⟨sl,hp,nx⟩ K:=by
  unfold shlK at c;split at c
  · cases c
  · rename_i q;cases c;exact Yk m (v:=.d (.int k (k.wrap (a * 2 ^ (min b.toNat k.bits))))) (st1:=⟨sl,hp,nx⟩) (by simp [opFn,p,n,binD,qam,q]) h (Jn rfl)
end
def K6 (n m : Nat) : Option Unit:=if n = m then some () else none
theorem Kr {n m : Nat} {u : Unit} (h : K6 n m = some u) : n = m:=by
  unfold K6 at h;split at h
  · assumption
  · cases h
def q5e (s : ByteArray) (i : Int) : Option Int:=(if 0≤i then s[i.toNat]? else none).map fun b=>(b.toNat : Int)
theorem qws {P : Program} {T : Tab} {base : Nat} {ops : Array Oper} {dr : Dr} {l : List Oper} {sl : List (Nat × V)} {hp : List (Nat × Blk)} {nx : Nat} {K : AS→Prop} {ty : TypeId} {pos : String} {af : Array Edge} {t : Tmp} {g : Option (Nat × Bool)} {x y : Operand} {a : TypeId} {i : TI} {k : IntKind} {n v : Int} (s : ByteArray) (c : q5e s n = some v) (j : Qz ops ⟨sl,hp,nx⟩ ⟨some t,.index a x y,ty,pos,af,g⟩ = some true) (m : T a = some i)
    (o : AS.ev ⟨sl,hp,nx⟩ x = some (.d (.str s))) (p : AS.ev ⟨sl,hp,nx⟩ y = some (.d (.int k n))) (f : i.kind = .str)
    (h : OpsK P T base ops dr l ⟨(t,.d (.int .u8 v))::sl,hp,nx⟩ K) : OpsK P T base ops dr (⟨some t,.index a x y,ty,pos,af,g⟩::l) ⟨sl,hp,nx⟩ K:=by
  unfold q5e at c;rw [Yc] at c;obtain ⟨b,hb,rfl⟩:=c;refine Yk j (v:=.d (.int .u8 b.toNat)) (st1:=⟨sl,hp,nx⟩) ?_ h (Jn rfl);simp only [opFn,m,o,p,f,hb,Option.map_some]
open Classical in
noncomputable def lim {α : Type} (f : Nat→Option α) : Option α:=if h : ∃ r n,f n = some r then some h.choose else none
theorem qh2 {α : Type} {f : Nat→Option α} {r : α} (h : lim f = some r) : ∃ n,f n = some r:=by
  unfold lim at h;split at h
  · rename_i a;cases h;exact a.choose_spec
  · cases h
theorem qvp {α : Type} {f : Nat→Option α} {n : Nat} {r : α} (h : f n = some r) : ∃ a,lim f = some a:=by
  unfold lim;rw [dif_pos ⟨r,n,h⟩];exact ⟨_,rfl⟩
theorem Yv {P : Program} {T : Tab} {base : Nat} {c : Code} {cs : List Code} {st : AS} {K : Ex→AS→Prop} (h : RunK P T base (c::.loop c::cs) st K) : RunK P T base (.loop c::cs) st K:=by
  obtain ⟨ex,st1,b,d⟩:=h
  cases ex with
  | nor=>
    obtain ⟨a,st2,g,f⟩:=d;exact ⟨a,st2,.loopN b g,f⟩
  | exit i=>exact ⟨_,_,.loopX b qg,d⟩
  | ret=>exact ⟨_,_,.loopX b qg,d⟩
def idxW {α : Type} (xs : List α) (w : Nat × Nat) (k : Int) : Option α:=if 0≤k∧k < w.2 then xs[w.1 + k.toNat]? else none
theorem qgv {α : Type} {xs : List α} {w : Nat × Nat} {k : Int} {v : α} (h : idxW xs w k = some v) : idx xs ((w.1 : Int) + k) = some v:=by
  unfold idxW at h;split at h
  · rename_i a;unfold idx;rw [qr q6];rw [show ((w.1 : Int) + k).toNat = w.1 + k.toNat by omega];exact h
  · cases h
def q1m (n : Nat) (w : Nat × Nat) : Option Unit:=if w.1 + w.2≤n then some () else none
theorem qf3 {n : Nat} {w : Nat × Nat} {u : Unit} (h : q1m n w = some u) : w.1 + w.2≤n:=by
  unfold q1m at h;split at h
  · assumption
  · cases h
def clrw {α : Type} (xs : List α) (w : Nat × Nat) (z : α) : List α:=splice xs w.1 (List.replicate w.2 z)
theorem qkf {α : Type} {xs : List α} {w : Nat × Nat} {z : α} (h : w.1 + w.2≤xs.length) : (clrw xs w z).length = xs.length:=by
  unfold clrw splice;simp;omega
section
variable {P : Program} {T : Tab} {base : Nat} {ops : Array Oper} {dr : Dr} {l : List Oper} {sl : List (Nat × V)} {hp : List (Nat × Blk)} {nx : Nat} {K : AS→Prop} {ty : TypeId} {pos : String} {af : Array Edge} {t : Tmp} {g : Option (Nat × Bool)}
theorem qhk {α : Type} {x y : Operand} {a : TypeId} {i : TI} {k : IntKind} {n : Int} {m es : Nat} {xs : List α} {w : Nat × Nat} {v : α} (b : idxW xs w n = some v) (o : Qz ops ⟨sl,hp,nx⟩ ⟨some t,.indexAddr a x y,ty,pos,af,g⟩ = some true) (q : T a = some i)
    (r : AS.ev ⟨sl,hp,nx⟩ x = some (.hs m es w.1 w.2)) (p : AS.ev ⟨sl,hp,nx⟩ y = some (.d (.int k n))) (f : i.kind = .slice) (j : es = i.esize)
    (h : OpsK P T base ops dr l ⟨(t,.ref m es ((w.1 : Int) + n).toNat 0)::sl,hp,nx⟩ K) : OpsK P T base ops dr (⟨some t,.indexAddr a x y,ty,pos,af,g⟩::l) ⟨sl,hp,nx⟩ K:=by
  have c : 0≤n∧n < w.2:=by
    unfold idxW at b;split at b
    · assumption
    · cases b
  refine qwo o q r p f j c.1 c.2 ?_;rw [show ((w.1 : Int) + n).toNat = w.1 + n.toNat by omega] at h;exact h
theorem qwm {α : Type} {x : Operand} {a : TypeId} {i : TI} {n es : Nat} {xs : List α} {enc : α→List DV} (z : α) {w : Nat × Nat} (o : w.1 + w.2≤xs.length) (k : Qz ops ⟨sl,hp,nx⟩ ⟨none,.call {callee:=.builtin .clear,args:=#[x],argTypes:=#[a]},ty,pos,af,g⟩ = some true) (m : T a = some i)
    (p : AS.ev ⟨sl,hp,nx⟩ x = some (.hs n es w.1 w.2)) (hb : find hp n = some (.dat es (xs.map enc))) (f : i.kind = .slice) (j : i.esize = es) (b : i.ezero = enc z)
    (h : OpsK P T base ops dr l ⟨sl,repl hp n (.dat es ((clrw xs w z).map enc)),nx⟩ K) (c : okO dr l.length ⟨sl,hp,nx⟩ (.call {callee:=.builtin .clear,args:=#[x],argTypes:=#[a]}) ⟨sl,repl hp n (.dat es ((clrw xs w z).map enc)),nx⟩ = true:=by rfl) :
    OpsK P T base ops dr (⟨none,.call {callee:=.builtin .clear,args:=#[x],argTypes:=#[a]},ty,pos,af,g⟩::l) ⟨sl,hp,nx⟩ K:=by
  subst j;refine Yk k (v:=.d (.tup [])) (st1:=⟨sl,repl hp n (.dat i.esize ((clrw xs w z).map enc)),nx⟩) ?_ h c;simp only [opFn,evL,p,Yh];simp only [List.getElem?_toArray,List.getElem?_cons_zero,m];rw [qr ⟨f,by simp [J7]⟩];simp only [U4,AS.blk,hb];rw [qr ⟨by simpa using o,trivial⟩,b];simp [clrw,splice,AS.setBlk]
end
def arr3 {α : Type} (xs : List α) : Option (α × α × α):=match xs with
  | [a0,a1,a2]=>some (a0,a1,a2)
  | _=>none
theorem qrm {α : Type} {xs : List α} {v : α × α × α} {enc : α→List DV} (h : arr3 xs = some v) : xs.flatMap enc = enc v.1 ++ (enc v.2.1 ++ (enc v.2.2)):=by
  unfold arr3 at h;split at h
  · cases h;simp
  · cases h
section
variable {P : Program} {T : Tab} {base : Nat} {ops : Array Oper} {dr : Dr} {l : List Oper} {sl : List (Nat × V)} {hp : List (Nat × Blk)} {nx : Nat} {K : AS→Prop} {ty : TypeId} {pos : String} {af : Array Edge} {t : Tmp} {g : Option (Nat × Bool)}
theorem qwt {α : Type} {p : Operand} {a : TypeId} {i : TI} {m es : Nat} {xs : List α} {enc : α→List DV} {cs : List DV} (w : V) (b : xs.flatMap enc = cs) (c : Qz ops ⟨sl,hp,nx⟩ ⟨some t,.load a p,ty,pos,af,g⟩ = some true) (f : T a = some i)
    (n : AS.ev ⟨sl,hp,nx⟩ p = some (.ref m es 0 0)) (hb : find hp m = some (.dat es [xs.flatMap enc])) (hs : i.size = cs.length) (j : (q1e i.agg cs).map .d = some w)
    (h : OpsK P T base ops dr l ⟨(t,w)::sl,hp,nx⟩ K) (k : okF dr l.length (fp ⟨sl,hp,nx⟩ (.load a p)) = true:=by rfl) : OpsK P T base ops dr (⟨some t,.load a p,ty,pos,af,g⟩::l) ⟨sl,hp,nx⟩ K:=by
  rw [b] at hb;exact qhl c f n hb rfl (by rw [hs];exact q158) j h k
end
end Go.Am
namespace Go.Am
open Go
theorem J {α : Sort _} {a : α} : a = a:=rfl
abbrev q7 (n : Int) : DV:=.int .i64 n
abbrev q9 (n : Int) : V:=.d (.int .i64 n)
abbrev Q1 (b : Bool) : V:=.d (.bool b)
section
variable {P : Program} {T : Tab} {base : Nat} {ops : Array Oper} {dr : Dr} {l : List Oper} {sl : List (Nat × V)} {hp : List (Nat × Blk)} {nx : Nat} {K : AS→Prop} {ty : TypeId} {pos : String} {af : Array Edge} {t : Tmp} {g : Option (Nat × Bool)} {v : V}
theorem U {x : Operand} (a : (Qz ops ⟨sl,hp,nx⟩ ⟨some t,.move x,ty,pos,af,g⟩,AS.ev ⟨sl,hp,nx⟩ x) = (some true,some v))
    (h : OpsK P T base ops dr l ⟨(t,v)::sl,hp,nx⟩ K) : OpsK P T base ops dr (⟨some t,.move x,ty,pos,af,g⟩::l) ⟨sl,hp,nx⟩ K:=qhm (Prod.mk.inj a).1 (Prod.mk.inj a).2 h
theorem qc {x : Operand} (a : (Qz ops ⟨sl,hp,nx⟩ ⟨some t,.assign x,ty,pos,af,g⟩,AS.ev ⟨sl,hp,nx⟩ x) = (some true,some v))
    (h : OpsK P T base ops dr l ⟨(t,v)::sl,hp,nx⟩ K) : OpsK P T base ops dr (⟨some t,.assign x,ty,pos,af,g⟩::l) ⟨sl,hp,nx⟩ K:=qwl (Prod.mk.inj a).1 (Prod.mk.inj a).2 h
theorem O {op : Op} (v : V) (a : (Qz ops ⟨sl,hp,nx⟩ ⟨some t,op,ty,pos,af,g⟩,opFn T ⟨sl,hp,nx⟩ op) = (some true,some (v,⟨sl,hp,nx⟩))) (h : OpsK P T base ops dr l ⟨(t,v)::sl,hp,nx⟩ K)
    (b : okO dr l.length ⟨sl,hp,nx⟩ (op) ⟨sl,hp,nx⟩ = true:=by rfl) : OpsK P T base ops dr (⟨some t,op,ty,pos,af,g⟩::l) ⟨sl,hp,nx⟩ K:=qx4 v (Prod.mk.inj a).1 (Prod.mk.inj a).2 h b
theorem Q8 {op : Op} (n : Nat) (b : Blk) (a : (Qz ops ⟨sl,hp,nx⟩ ⟨none,op,ty,pos,af,g⟩,opFn T ⟨sl,hp,nx⟩ op) = (some true,some (.dead,⟨sl,repl hp n b,nx⟩))) (h : OpsK P T base ops dr l ⟨sl,repl hp n b,nx⟩ K) (c : okO dr l.length ⟨sl,hp,nx⟩ (op) ⟨sl,repl hp n b,nx⟩ = true:=by rfl) : OpsK P T base ops dr (⟨none,op,ty,pos,af,g⟩::l) ⟨sl,hp,nx⟩ K:=
  qx3 n b (Prod.mk.inj a).1 (Prod.mk.inj a).2 h c
theorem Ql {op : Op} (v : V) (b : Blk) (a : (Qz ops ⟨sl,hp,nx⟩ ⟨some t,op,ty,pos,af,g⟩,opFn T ⟨sl,hp,nx⟩ op) = (some true,some (v,⟨sl,(nx,b)::hp,nx + 1⟩))) (h : OpsK P T base ops dr l ⟨(t,v)::sl,(nx,b)::hp,nx + 1⟩ K) (c : okO dr l.length ⟨sl,hp,nx⟩ (op) ⟨sl,(nx,b)::hp,nx + 1⟩ = true:=by rfl) : OpsK P T base ops dr (⟨some t,op,ty,pos,af,g⟩::l) ⟨sl,hp,nx⟩ K:=
  qwy v b (Prod.mk.inj a).1 (Prod.mk.inj a).2 h c
theorem q6l {α : Type} {x : Operand} {a : TypeId} {i : TI} {es : Nat} {xs : List α} {enc : α→List DV} (n : Int) (k : (xs.length : Int) = n) (b : Qz ops ⟨sl,hp,nx⟩ ⟨some t,.call {callee:=.builtin .len,args:=#[x],argTypes:=#[a]},ty,pos,af,g⟩ = some true) (c : T a = some i) (f : i.kind = .slice) (j : AS.ev ⟨sl,hp,nx⟩ x = some (.d (.sl es (xs.map enc))))
    (h : OpsK P T base ops dr l ⟨(t,.d (.int .i64 n))::sl,hp,nx⟩ K) : OpsK P T base ops dr (⟨some t,.call {callee:=.builtin .len,args:=#[x],argTypes:=#[a]},ty,pos,af,g⟩::l) ⟨sl,hp,nx⟩ K:=by
  subst k;exact qnc b c f j h
theorem Qe {α : Type} {x y : Operand} {a : TypeId} {i : TI} {k : IntKind} {n : Int} {es : Nat} {xs : List α} {enc : α→List DV} {v : α} (m : idx xs n = some v)
    (b : (Qz ops ⟨sl,hp,nx⟩ ⟨some t,.indexAddr a x y,ty,pos,af,g⟩,T a,AS.ev ⟨sl,hp,nx⟩ x,AS.ev ⟨sl,hp,nx⟩ y,i.kind,es) = (some true,some i,some (.d (.sl es (xs.map enc))),some (.d (.int k n)),.slice,i.esize))
    (h : OpsK P T base ops dr l ⟨(t,.dref (enc v) 0)::sl,hp,nx⟩ K) : OpsK P T base ops dr (⟨some t,.indexAddr a x y,ty,pos,af,g⟩::l) ⟨sl,hp,nx⟩ K:=by
  simp only [Prod.mk.injEq] at b;obtain ⟨q,j,c,o,p,f⟩:=b;exact qwq m q j c o p f h
theorem Q2 {α : Type} {x y : Operand} {a : TypeId} {i : TI} {k : IntKind} {n : Int} {m es len : Nat} {xs : List α} {v : α} (o : idx xs n = some v) (p : len = xs.length)
    (b : (Qz ops ⟨sl,hp,nx⟩ ⟨some t,.indexAddr a x y,ty,pos,af,g⟩,T a,AS.ev ⟨sl,hp,nx⟩ x,AS.ev ⟨sl,hp,nx⟩ y,i.kind,es) = (some true,some i,some (.hs m es 0 len),some (.d (.int k n)),.slice,i.esize))
    (h : OpsK P T base ops dr l ⟨(t,.ref m es n.toNat 0)::sl,hp,nx⟩ K) : OpsK P T base ops dr (⟨some t,.indexAddr a x y,ty,pos,af,g⟩::l) ⟨sl,hp,nx⟩ K:=by
  simp only [Prod.mk.injEq] at b;obtain ⟨s,j,c,q,r,f⟩:=b;exact qwp o p s j c q r f h
theorem Qf {α : Type} {p : Operand} {a : TypeId} {i : TI} {m es j : Nat} {n : Int} {xs : List α} {enc : α→List DV} {r : List DV} {v : α} (w : V) (q : idx xs n = some v)
    (b : (Qz ops ⟨sl,hp,nx⟩ ⟨some t,.load a p,ty,pos,af,g⟩,T a,AS.ev ⟨sl,hp,nx⟩ p,find hp m,sub (enc v) j i.size,(q1e i.agg r).map V.d) = (some true,some i,some (.ref m es n.toNat j),some (.dat es (xs.map enc)),some r,some w))
    (h : OpsK P T base ops dr l ⟨(t,w)::sl,hp,nx⟩ K) (f : okF dr l.length (fp ⟨sl,hp,nx⟩ (.load a p)) = true:=by rfl) : OpsK P T base ops dr (⟨some t,.load a p,ty,pos,af,g⟩::l) ⟨sl,hp,nx⟩ K:=by
  simp only [Prod.mk.injEq] at b;obtain ⟨x,o,c,s,u,k⟩:=b;exact qwv w q x o c s u k h f
theorem Qp {α : Type} {x : Operand} {a : TypeId} {i : TI} {es : Nat} {xs : List α} {enc : α→List DV}
    (b : (Qz ops ⟨sl,hp,nx⟩ ⟨some t,.call {callee:=.builtin .len,args:=#[x],argTypes:=#[a]},ty,pos,af,g⟩,T a,i.kind,AS.ev ⟨sl,hp,nx⟩ x) = (some true,some i,.slice,some (.d (.sl es (xs.map enc)))))
    (h : OpsK P T base ops dr l ⟨(t,.d (.int .i64 (xs.length : Int)))::sl,hp,nx⟩ K) : OpsK P T base ops dr (⟨some t,.call {callee:=.builtin .len,args:=#[x],argTypes:=#[a]},ty,pos,af,g⟩::l) ⟨sl,hp,nx⟩ K:=by
  simp only [Prod.mk.injEq] at b;obtain ⟨k,c,f,j⟩:=b;exact qnc k c f j h
theorem Q4 {c : Call} {f : FuncId} {ds : List DV} {r : DV} {a : List V} (b : Pure P T f ds r) (j : (Qz ops ⟨sl,hp,nx⟩ ⟨some t,.call c,ty,pos,af,g⟩,callee ⟨sl,hp,nx⟩ c,Kx hp a,a.all V.isD) = (some true,some (f,a),some ds,true))
    (h : OpsK P T base ops dr l ⟨(t,.d r)::sl,hp,nx⟩ K) (n : okF dr l.length (fpC a) = true:=by rfl) : OpsK P T base ops dr (⟨some t,.call c,ty,pos,af,g⟩::l) ⟨sl,hp,nx⟩ K:=by
  simp only [Prod.mk.injEq] at j;obtain ⟨p,k,m,o⟩:=j;exact q3d a b p k m (.inl o) h n
theorem Q6 {st : AS} {b : List ResultVar} {r : DV} (v : V) (a : (resV T st b,toD st.hp 8 v) = (some v,some r)) : (Ex.ret = .nor∨Ex.ret = .ret)∧∃ v c,resV T st b = some v∧toD st.hp 8 v = some c∧DLe c r:=by
  simp only [Prod.mk.injEq] at a;exact ⟨.inr rfl,v,r,a.1,a.2,.refl _⟩
theorem qe {id : Nat} {ops : Array Oper} {b : Code} {cs : List Code} {st : AS} {K : Ex→AS→Prop} (h : OpsK P T base ops none ops.toList st (fun st'=>RunK P T base (b::cs) st' K)) : RunK P T base (.seq (.region id ops false) b::cs) st K:=qf (qy h)
theorem qu {a ops : Array Oper} {id : Nat} {b : Code} {cs : List Code} {st : AS} {K : Ex→AS→Prop} (h : OpsK P T base ops none ops.toList st (fun st'=>RunK P T base (b::cs) st' K)) : OpsK P T base a dr [] st (fun st'=>RunK P T base (.seq (.region id ops false) b::cs) st' K):=qa (qf (qy h))
theorem qs {a : Array Oper} {cs : List Code} {st : AS} {K : Ex→AS→Prop} (h : K .ret st) : OpsK P T base a dr [] st (fun st'=>RunK P T base (.ret::cs) st' K):=qa (q1g h)
theorem qx {a : Array Oper} {st : AS} {K : Ex→AS→Prop} (h : K .nor st) : OpsK P T base a dr [] st (fun st'=>RunK P T base [] st' K):=qa (Qj h)
theorem Kc {dst : Option Tmp} {c : Call} {f : FuncId} {o : List V} {hp0 m : List (Nat × Blk)} {k s : Nat} {vR : V} (j p : List (Nat × Nat)) (q : List V) (t : V) (n : Nat) (a : List (Nat × Blk)) (b : Nat) (w : Ka P T f o hp0 k vR m s)
    (h : OpsK P T base ops none l ((⟨sl,a,b⟩ : AS).putD dst t) K)
    (x : Qz ops ⟨sl,hp,nx⟩ ⟨dst,.call c,ty,pos,af,g⟩ = some true:=by exact rfl) (y : callee ⟨sl,hp,nx⟩ c = some (f,q):=by exact rfl) (r : q.length = o.length:=by exact rfl)
    (u : wkOk 0 j [] [] hp0 k = true:=by exact rfl)
    (s1 : WkL ⟨Yg 0 q,hp,nx⟩ (rho j) [] [] k (Yg 0 o):=by
      repeat' first | exact trivial | refine And.intro (Exists.intro _ (And.intro rfl ?_)) ?_ | exact Wv.d (DLe.refl _) | exact Wv.ref rfl qz (ltd rfl) | exact Wv.mp rfl qz (ltd rfl) | exact Wv.hs rfl qz (ltd rfl) | exact Wv.d (DLe.nil _) | refine qf4 ?_ | refine qja ?_ | refine q2k ?_ | refine WvL.cons ?_ ?_ | exact WvL.nil | exact Wv.dref _ _ | exact Wv.yld rfl qz (ltd rfl))
    (b1 : WkH ⟨Yg 0 q,hp,nx⟩ (rho j) [] [] k hp0:=by
      repeat' first | exact trivial | refine And.intro (And.intro (ltd rfl) (Or.inr (And.intro qz (Exists.intro _ (And.intro rfl ?_))))) ?_ | exact Wb.dat _ _ | exact Wb.mp _ | refine Jt ?_ | refine qj7 ?_ | refine WvC.cons ?_ rfl ?_ | exact WvC.nil | exact Wv.d (DLe.refl _) | exact Wv.ref rfl qz (ltd rfl) | exact Wv.mp rfl qz (ltd rfl) | exact Wv.hs rfl qz (ltd rfl) | exact Wv.d (DLe.nil _))
    (o3 : wkOk 0 p [] [] (a.take n) b = true:=by exact rfl)
    (v : WkL ⟨[(0,vR)],m,s⟩ (rho p) [] [] b [(0,t)]:=by
      repeat' first | exact trivial | refine And.intro (Exists.intro _ (And.intro rfl ?_)) ?_ | exact Wv.d (DLe.refl _) | exact Wv.ref rfl qz (ltd rfl) | exact Wv.mp rfl qz (ltd rfl) | exact Wv.hs rfl qz (ltd rfl) | exact Wv.d (DLe.nil _) | refine qf4 ?_ | refine qja ?_ | refine q2k ?_ | refine WvL.cons ?_ ?_ | exact WvL.nil | exact Wv.dref _ _ | exact Wv.yld rfl qz (ltd rfl))
    (z : WkH ⟨[(0,vR)],m,s⟩ (rho p) [] [] b (a.take n):=by
      repeat' first | exact trivial | refine And.intro (And.intro (ltd rfl) (Or.inr (And.intro qz (Exists.intro _ (And.intro rfl ?_))))) ?_ | exact Wb.dat _ _ | exact Wb.mp _ | refine Jt ?_ | refine qj7 ?_ | refine WvC.cons ?_ rfl ?_ | exact WvC.nil | exact Wv.d (DLe.refl _) | exact Wv.ref rfl qz (ltd rfl) | exact Wv.mp rfl qz (ltd rfl) | exact Wv.hs rfl qz (ltd rfl) | exact Wv.d (DLe.nil _))
    (hb : q9f j p k s nx b = true:=by exact rfl)
    (hold : OldL j k hp (a.take n) a:=by repeat' first | exact trivial | refine And.intro (Or.inl rfl) ?_ | refine And.intro (Or.inr (And.intro rfl rfl)) ?_) :
    OpsK P T base ops none (⟨dst,.call c,ty,pos,af,g⟩::l) ⟨sl,hp,nx⟩ K:=
  Ua j p q t (a.take n) a b w x y r (Yp j [] [] u s1 b1) (Yp p [] [] o3 v z) hb hold h
end
inductive WvR (st : AS) (ρ : Nat→Nat) (fz ph : List Nat) (nx : Nat) : List (List V)→List (List V)→Prop
  | nil : WvR st ρ fz ph nx [] []
  | cons {c d : List V} {cs ds : List (List V)} : WvC st ρ fz ph nx c d→WvR st ρ fz ph nx cs ds→WvR st ρ fz ph nx (c::cs) (d::ds)
theorem WvR.len {st : AS} {ρ : Nat→Nat} {fz ph : List Nat} {nx : Nat} {cs ds : List (List V)} (h : WvR st ρ fz ph nx cs ds) : cs.length = ds.length:=by
  induction h with
  | nil=>rfl
  | cons _ _ ih=>simp [ih]
theorem WvR.get {st : AS} {ρ : Nat→Nat} {fz ph : List Nat} {nx : Nat} {cs ds : List (List V)} (h : WvR st ρ fz ph nx cs ds) : ∀ (j : Nat) (c d : List V),cs[j]? = some c→ds[j]? = some d→WvC st ρ fz ph nx c d:=by
  induction h with
  | nil=>intro i x y h;simp at h
  | cons h1 _ ih=>
    intro i x y b a
    cases i with
    | zero=>simp at b a;subst b;subst a;exact h1
    | succ i=>exact ih i x y (by simpa using b) (by simpa using a)
theorem q16e {st : AS} {ρ : Nat→Nat} {fz ph : List Nat} {nx es : Nat} {cs ds : List (List V)} (h : WvR st ρ fz ph nx cs ds) : Wb st ρ fz ph nx (.cel es cs) (.cel es ds):=
  .cel h.len fun i x y b a=>⟨(h.get i x y b a).len,(h.get i x y b a).get⟩
theorem q16f {st : AS} {ρ : Nat→Nat} {fz ph : List Nat} {nx es : Nat} {cs : List (List DV)} {ds : List (List V)} (h : WvR st ρ fz ph nx (cs.map (·.map .d)) ds) : Wb st ρ fz ph nx (.dat es cs) (.cel es ds):=by
  refine .datcel (by simpa using h.len) fun i x y g b=>?_;have a:=h.get i (x.map .d) y (by simp [g]) b;refine ⟨by simpa using a.len,fun j c d f hd=>a.get j (.d c) d (by simp [f]) hd⟩
theorem wkA {base : Nat} {st st' : AS} (l : List (Nat × Nat)) (fz ph : List Nat) (a : wkOk base l fz ph st'.hp st'.nx = true:=by exact rfl)
    (hs : WkL st (rho l) fz ph st'.nx st'.sl:=by
      repeat' first | exact trivial | refine And.intro (Exists.intro _ (And.intro rfl ?_)) ?_ | exact Wv.d (DLe.refl _) | exact Wv.ref rfl qz (ltd rfl) | exact Wv.mp rfl qz (ltd rfl) | exact Wv.hs rfl qz (ltd rfl) | exact Wv.d (DLe.nil _) | exact Wv.nil qz (ltd rfl) | exact qr4 rfl rfl qz | refine qf4 ?_ | refine q16m ?_ | refine qja ?_ | refine q16n ?_ | refine q2k ?_ | refine WvL.cons ?_ ?_ | exact WvL.nil | exact Wv.dref _ _ | exact Wv.yld rfl qz (ltd rfl))
    (b : WkH st (rho l) fz ph st'.nx st'.hp:=by
      repeat' first | exact trivial | refine And.intro (And.intro (ltd rfl) (Or.inr (And.intro qz (Exists.intro _ (And.intro rfl ?_))))) ?_ | refine And.intro (And.intro (ltd rfl) (Or.inl (And.intro qz (Exists.intro _ (And.intro qz rfl))))) ?_ | exact Wb.dat _ _ | exact Wb.mp _ | refine Jt ?_ | refine qj7 ?_ | refine q16e ?_ | refine q16f ?_ | refine WvR.cons ?_ ?_ | exact WvR.nil | refine q16g ?_ | refine WvS.cons rfl ?_ ?_ | exact WvS.nil | refine WvC.cons ?_ rfl ?_ | exact WvC.nil | exact Wv.d (DLe.refl _) | exact Wv.ref rfl qz (ltd rfl) | exact Wv.mp rfl qz (ltd rfl) | exact Wv.hs rfl qz (ltd rfl) | exact Wv.d (DLe.nil _) | exact Wv.nil qz (ltd rfl) | exact qr4 rfl rfl qz | refine q2k ?_ | refine qf4 ?_ | refine WvL.cons ?_ ?_ | exact WvL.nil | exact Wv.yld rfl qz (ltd rfl)) : WkE base st st':=wkE l fz ph a hs b
theorem qt {st : AS} {ρ : Nat→Nat} {fz ph : List Nat} {nx t : Nat} {x : DV} (h : st.get t = some (.d x)) : ∃ v,st.get t = some v∧Wv st ρ fz ph nx v (.d x):=⟨_,h,.d (.refl _)⟩
theorem Qu {st : AS} {ρ : Nat→Nat} {fz ph : List Nat} {nx n es : Nat} {xs : List (List DV)} (d : Nat.blt n nx = true) (c : st.blk (ρ n) = some (.dat es xs)) (a : n ∉ ph:=by decide) :
    n < nx∧((n∈ph∧∃ e,e≠0∧(Blk.dat es xs) = .dat e [])∨(n ∉ ph∧∃ b,st.blk (ρ n) = some b∧Wb st ρ fz ph nx b (.dat es xs))):=⟨ltd d,.inr ⟨a,_,c,.dat _ _⟩⟩
abbrev q0 : Option (List Nat) × List Nat:=(some [],[])
abbrev qv (n : Nat) : Option (List Nat) × List Nat:=(some [n],[])
abbrev Qx (n : Nat) : Option (List Nat) × List Nat:=(some [n],[n])
end Go.Am
namespace Go.Am
open Go
inductive DLeR : List (List DV)→List (List DV)→Prop
  | nil : DLeR [] []
  | cons {x y : List DV} {xs ys : List (List DV)} : DLeL x y→DLeR xs ys→DLeR (x::xs) (y::ys)
structure q40 (ag : Bool) (ks : List (Option IntKind)) {α : Type} [DecidableEq α] (ek : α→DV) : Prop where
  agg : ∀ k,Zz (ek k) = ag
  len : ∀ k,(cellsD (ek k)).length = ks.length
  eq : ∀ a b,Ki ks (cellsD (ek a)) (cellsD (ek b)) = some (decide (a = b))
theorem key2 {k j : IntKind} : q40 true [some k,some j] (fun n : Int × Int=>DV.agg [.int k n.1,.int j n.2]):=
  ⟨fun _=>rfl,fun _=>rfl,fun a b=>by
    obtain ⟨c,d⟩:=a;obtain ⟨b1,f⟩:=b
    simp [cellsD,Ki,q2o];rfl⟩
section
variable {α β : Type} [DecidableEq α]
def Zc (z : β) (k : α) : List (α × β)→β
  | []=>z
  | (a,v)::r=>if k = a then v else Zc z k r
def qhd (k : α) : List (α × β)→Bool
  | []=>false
  | (a,_)::r=>if k = a then true else qhd k r
def Ut (k : α) (v : β) : List (α × β)→List (α × β)
  | []=>[(k,v)]
  | (a,w)::r=>if k = a then (k,v)::r else (a,w)::Ut k v r
abbrev mrow (ek : α→DV) (ev : β→DV) (es : List (α × β)) : List (DV × DV):=es.map fun e=>(ek e.1,ev e.2)
variable {ag : Bool} {ks : List (Option IntKind)} {ek : α→DV} {ev : β→DV}
def q3c (k : α) : List (α × β)→Option Nat
  | []=>none
  | (a,_)::r=>if k = a then some 0 else (q3c k r).map (· + 1)
theorem qhc (b : q40 ag ks ek) (k : α) : ∀ es : List (α × β),Zr ag ks (ek k) (mrow ek ev es) = some (q3c k es)
  | []=>rfl
  | (a,v)::r=>by
    have c:=qhc b k r
    simp only [mrow,List.map_cons,Zr,b.agg,and_self,if_true,b.eq,q3c] at c ⊢
    by_cases h : k = a
    · simp [h]
    · simp only [h,decide_false,if_false,c]
      cases q3c k r <;> rfl
theorem qmj (a : q40 ag ks ek) (k : α) : Uq ag ks (ek k) = true:=by
  simp [Uq,a.agg,a.len]
theorem qw4 (b : q40 ag ks ek) (z : β) (k : α) (es : List (α × β)) : mget ag ks (ev z) (ek k) (mrow ek ev es) = some (ev (Zc z k es),qhd k es):=by
  unfold mget;rw [qhc b]
  induction es with
  | nil=>rfl
  | cons e r ih=>
    obtain ⟨a,v⟩:=e;simp only [q3c,Zc,qhd];by_cases h : k = a
    · simp [h]
    · simp only [h,if_false]
      cases hp : q3c k r with
      | none=>rw [hp] at ih;simpa using ih
      | some j=>rw [hp] at ih;simpa using ih
theorem qw9 (b : q40 ag ks ek) (k : α) (v : β) (es : List (α × β)) : mput ag ks (ek k) (ev v) (mrow ek ev es) = some (mrow ek ev (Ut k v es)):=by
  unfold mput;rw [qhc b]
  induction es with
  | nil=>rfl
  | cons e r ih=>
    obtain ⟨a,w⟩:=e;simp only [q3c,Ut];by_cases h : k = a
    · simp [h]
    · simp only [h,if_false]
      cases hp : q3c k r with
      | none=>rw [hp] at ih;simp at ih ⊢;exact ih
      | some j=>rw [hp] at ih;simp at ih ⊢;exact ih
end
section
variable {P : Program} {T : Tab} {base : Nat} {ops : Array Oper} {dr : Dr} {l : List Oper} {sl : List (Nat × V)} {hp : List (Nat × Blk)} {nx : Nat} {K : AS→Prop} {ty : TypeId} {pos : String} {af : Array Edge} {t : Tmp} {g : Option (Nat × Bool)}
variable {α β : Type} [DecidableEq α] {ek : α→DV} {ev : β→DV} {mt : TypeId} {i : TI} {ks : List (Option IntKind)} {n : Nat} {es : List (α × β)}
theorem qww {x a : Operand} (c : q40 i.eagg ks ek) (z : β) (k : α) (f : Qz ops ⟨sl,hp,nx⟩ ⟨some t,.lookup mt x a false,ty,pos,af,g⟩ = some true) (m : T mt = some i) (b : i.keys = some ks) (j : i.ezero = [ev z])
    (q : AS.ev ⟨sl,hp,nx⟩ x = some (.mp n)) (p : AS.ev ⟨sl,hp,nx⟩ a = some (.d (ek k))) (hb : find hp n = some (.mp (mrow ek ev es)))
    (h : OpsK P T base ops dr l ⟨(t,.d (ev (Zc z k es)))::sl,hp,nx⟩ K) (o : okO dr l.length ⟨sl,hp,nx⟩ (.lookup mt x a false) ⟨sl,hp,nx⟩ = true:=by rfl) : OpsK P T base ops dr (⟨some t,.lookup mt x a false,ty,pos,af,g⟩::l) ⟨sl,hp,nx⟩ K:=by
  refine Yk f (v:=.d (ev (Zc z k es))) (st1:=⟨sl,hp,nx⟩) ?_ h o;simp only [opFn,m,q,p,b,AS.blk,hb,j,qmj c,if_true,qw4 c,Option.map_some,Q0]
theorem qwx {m a y : Operand} (c : q40 i.eagg ks ek) (k : α) (v : β) (f : Qz ops ⟨sl,hp,nx⟩ ⟨none,.mapUpdate mt m a y,ty,pos,af,g⟩ = some true) (p : T mt = some i) (b : i.keys = some ks)
    (o : AS.ev ⟨sl,hp,nx⟩ m = some (.mp n)) (r : AS.ev ⟨sl,hp,nx⟩ a = some (.d (ek k))) (j : AS.ev ⟨sl,hp,nx⟩ y = some (.d (ev v))) (hb : find hp n = some (.mp (mrow ek ev es))) (q : Ym (ev v) = true)
    (h : OpsK P T base ops dr l ⟨sl,repl hp n (.mp (mrow ek ev (Ut k v es))),nx⟩ K) (s : okO dr l.length ⟨sl,hp,nx⟩ (.mapUpdate mt m a y) ⟨sl,repl hp n (.mp (mrow ek ev (Ut k v es))),nx⟩ = true:=by rfl) : OpsK P T base ops dr (⟨none,.mapUpdate mt m a y,ty,pos,af,g⟩::l) ⟨sl,hp,nx⟩ K:=by
  refine Yk f (v:=.dead) (st1:=⟨sl,repl hp n (.mp (mrow ek ev (Ut k v es))),nx⟩) ?_ h s;simp only [opFn,p,o,r,j,b,AS.blk,hb,qmj c,q,and_self,if_true,qw9 c,Option.map_some];rfl
end
end Go.Am
