/- Lf3 Lf4 Lf5 Lf6 -/
import Derived.Test.YtmekakoiicomaaaGreatK6
namespace Go.Am
open Go
theorem RunK.toEv {P : Program} {T : Tab} {base : Nat} {c : Code} {st : AS} {K : Ex→AS→Prop} (h : RunK P T base [c] st K) : ∃ ex st',Ky P T base c st ex st'∧K ex st':=q6b h
section
variable {P : Program} {T : Tab} {base : Nat} {ops : Array Oper} {l : List Oper} {sl : List (Nat × V)} {hp : List (Nat × Blk)} {nx : Nat} {K : AS→Prop} {ty : TypeId} {pos : String} {af : Array Edge} {dst : Option Tmp} {g : Option (Nat × Bool)}
theorem U5 {β : Type} {c : Call} {f : FuncId} {fn : Func} {d : Code} (k : List V) (E : β→Prop) (S : β→AS) (s : K4 ops ⟨sl,hp,nx⟩ ⟨dst,.call c,ty,pos,af,g⟩ = some true) (y : callee ⟨sl,hp,nx⟩ c = some (f,k))
    (o : P.funcs[f]? = some fn) (hb : fn.body = some d) (a : (fn.name == "runtime.NumGoroutine") = false) (j : codeOk fn.ntmps d = true) (p : Nat.ble k.length fn.ntmps = true)
    (h : RunK P T nx [d] ⟨Y7 0 k,hp,nx⟩ (fun ex st'=>(ex = .nor∨ex = .ret)∧∃ v,resV T st' fn.results.toList = some v∧∃ b,E b∧WkE base ((⟨sl,st'.hp,st'.nx⟩ : AS).putD dst v) (S b)))
    (q : ∀ b,E b→OpsK P T base ops none l (S b) K) : OpsK P T base ops none (⟨dst,.call c,ty,pos,af,g⟩::l) ⟨sl,hp,nx⟩ K:=by
  obtain ⟨ex,st',e,t,v,x,b,m,n⟩:=h.toEv;obtain ⟨st2,r,u⟩:=q b m;obtain ⟨ρ,fz,ph,w⟩:=n;exact ⟨st2,.callS s rfl y (.mk o hb a j (by simpa using p) e t x) (.wk w r),u⟩
theorem q4u {β : Type} {c : Call} {gf : Operand} {n : Nat} {t : List V} {s : List (Nat × V)} {f : List Tmp} {assign body A B : Code} (E : β→Prop) (S : β→AS) (hA : assign = A) (hB : body = B) (hg : K4 ops ⟨sl,hp,nx⟩ ⟨dst,.call c,ty,pos,af,g⟩ = some true)
    (m : c.callee = .value gf) (q : AS.ev ⟨sl,hp,nx⟩ gf = some (.yld n)) (y : evL (AS.ev ⟨sl,hp,nx⟩) c.args.toList = some t) (hb : find hp n = some (.loop s f A B .ready none)) (hl : f.length = t.length)
    (h : RunK P T nx [assign] ⟨q2y s f t,hp,nx⟩ (fun ex st1=>ex = .nor∧∃ u,find st1.hp n = some (.loop u f A B .ready none)∧
      RunK P T nx [body] (st1.setBlk n (.loop u f A B .busy none)) (fun ex st2=>∃ k,find st2.hp n = some (.loop k f A B .busy none)∧match ex with
        | .nor=>∃ b,E b∧WkE base ((⟨sl,repl st2.hp n (.loop k f A B .ready none),st2.nx⟩ : AS).putD dst (.d (.bool true))) (S b)
        | ex=>OpsK P T base ops none l ((⟨sl,repl st2.hp n (.loop k f A B .done ex.code),st2.nx⟩ : AS).putD dst (.d (.bool false))) K)))
    (hr : ∀ b,E b→OpsK P T base ops none l (S b) K) : OpsK P T base ops none (⟨dst,.call c,ty,pos,af,g⟩::l) ⟨sl,hp,nx⟩ K:=by
  subst hA hB;obtain ⟨ae,st1,e1,rfl,u,z,o⟩:=h.toEv;obtain ⟨ex,st2,e2,k,v,r⟩:=o.toEv
  have key : ∀ a,Ku P T base ops none l ((⟨sl,repl st2.hp n (.loop k f assign body (if ex = .nor then .ready else .done) ex.code),st2.nx⟩ : AS).putD dst (.d (.bool (decide (ex = .nor))))) a→Ku P T base ops none (⟨dst,.call c,ty,pos,af,g⟩::l) ⟨sl,hp,nx⟩ a:=
    fun a h3=>.callY hg rfl m q y hb hl e1 z e2 v h3
  cases ex with
  | nor=>
    obtain ⟨b,x,ρ,fz,ph,w⟩:=r;obtain ⟨a,p,j⟩:=hr b x;exact ⟨a,key a (.wk w p),j⟩
  | exit i=>
    obtain ⟨a,p,j⟩:=r;exact ⟨a,key a p,j⟩
  | ret=>
    obtain ⟨a,p,j⟩:=r;exact ⟨a,key a p,j⟩
end
section
variable {P : Program} {T : Tab} {base : Nat} {cs : List Code} {sl : List (Nat × V)} {hp : List (Nat × Blk)} {nx : Nat} {K : Ex→AS→Prop}
def qfs (P : Program) (T : Tab) (base : Nat) (cs : List Code) (K : Ex→AS→Prop) : Ex→AS→Prop:=qd5 (fun st'=>RunK P T base cs st' K) K
theorem q5j {k : Operand} {n : Array Tmp} {assign body : Code} {f : FuncId} {fn : Func} {j : Code} (a : List V)
    (t : AS.ev ⟨sl,hp,nx⟩ k = some (.fn f a)∨∃ ds,AS.ev ⟨sl,hp,nx⟩ k = some (.d (.fn f ds))∧a = ds.map .d)
    (o : P.funcs[f]? = some fn) (hb : fn.body = some j) (g : (fn.name == "runtime.NumGoroutine") = false) (m : codeOk fn.ntmps j = true) (p : Nat.ble (a.length + 1) fn.ntmps = true)
    (h : ∀ A B,assign = A→body = B→RunK P T (nx + 1) [j] ⟨Y7 0 (.yld nx::a),(nx,.loop sl n.toList A B .ready none)::hp,nx + 1⟩ (fun c b=>(c = .nor∨c = .ret)∧∃ v,resV T b fn.results.toList = some v∧
      ∃ (s : List (Nat × V)) (l : LoopState) (ex : Ex),find b.hp nx = some (.loop s n.toList A B l ex.code)∧l≠.busy∧qfs P T base cs K ex ⟨sl,repl b.hp nx .dead,b.nx⟩)) :
    RunK P T base (.rangeFunc k n assign body::cs) ⟨sl,hp,nx⟩ K:=by
  obtain ⟨c,b,e,u,v,w,s,l,ex,x,q,r⟩:=(h assign body rfl rfl).toEv;exact ⟨ex,_,.rangeF (pe:=ex.code) t (.mk o hb g m (by simpa using p) e u w) x q rfl,r⟩
theorem q41 {st : AS} (h : RunK P T base cs st K) : qfs P T base cs K .nor st:=h
theorem qdc {st : AS} (h : K .ret st) : qfs P T base cs K .ret st:=h
end
inductive WvS (st : AS) (ρ : Nat→Nat) (fz ph : List Nat) (nx : Nat) : List (Nat × V)→List (Nat × V)→Prop
  | nil {s : List (Nat × V)} : WvS st ρ fz ph nx s []
  | cons {s s' : List (Nat × V)} {t : Nat} {v v' : V} : find s t = some v→Wv st ρ fz ph nx v v'→WvS st ρ fz ph nx s s'→WvS st ρ fz ph nx s ((t,v')::s')
theorem qqe {st : AS} {ρ : Nat→Nat} {fz ph : List Nat} {nx : Nat} {s b : List (Nat × V)} {c : List Tmp} {as f : Code} {d : LoopState} {pe : Option Code} (h : WvS st ρ fz ph nx s b) : Wb st ρ fz ph nx (.loop s c as f d pe) (.loop b c as f d pe):=by
  refine .loop fun t g a=>?_
  induction h with
  | nil=>simp [find] at a
  | @cons b t' v v'' h1 h2 _ ih=>
    simp only [find] at a
    cases hb : Nat.beq t' t with
    | true=>rw [hb] at a;cases a;obtain rfl:=Nat.eq_of_beq_eq_true hb;exact ⟨v,h1,h2⟩
    | false=>rw [hb] at a;exact ih a
theorem qiq {α : Type} {enc : α→List DV} {es : Nat} (a : ∀ x,(enc x).length = es) {xs : List α} {k : Nat} {v : α} (h : xs[k]? = some v) : sub (xs.flatMap enc) (k * es) es = some (enc v):=by
  induction xs generalizing k with
  | nil=>simp at h
  | cons x xs ih=>
    cases k with
    | zero=>
      simp at h;subst h;have:=a x;simp [sub,List.flatMap_cons,this]
    | succ k=>
      have c : xs[k]? = some v:=by simpa using h
      have:=ih c;unfold sub at this ⊢;have f:=a x;have b : (k + 1) * es = (enc x).length + k * es:=by rw [Nat.succ_mul,f];omega
      rw [List.flatMap_cons,b];split at this
      · rename_i d;rw [Q1 (by rw [List.length_append];omega),← List.drop_drop,List.drop_left];exact this
      · cases this
theorem q15x {α : Type} {enc : α→List DV} {es : Nat} (a : ∀ x,(enc x).length = es) {xs : List α} {k : Nat} {v : α} (h : k < xs.length) : splice (xs.flatMap enc) (k * es) (enc v) = (xs.set k v).flatMap enc:=by
  induction xs generalizing k with
  | nil=>simp at h
  | cons x xs ih=>
    have b:=a x;have d:=a v
    cases k with
    | zero=>
      simp only [splice,Nat.zero_mul,List.take_zero,List.nil_append,Nat.zero_add,List.flatMap_cons,List.set_cons_zero];rw [d,← b,List.drop_left]
    | succ k=>
      have:=ih (k:=k) (by simpa using h);simp only [splice] at this ⊢;have c : (k + 1) * es = (enc x).length + k * es:=by rw [Nat.succ_mul,b];omega
      rw [List.flatMap_cons,List.set_cons_succ,List.flatMap_cons,c,← this];rw [List.take_length_add_append,show (enc x).length + k * es + (enc v).length = (enc x).length + (k * es + (enc v).length) by omega,← List.drop_drop,List.drop_left];simp [List.append_assoc]
theorem qtn {α : Type} {enc : α→List DV} {es : Nat} (a : ∀ x,(enc x).length = es) (xs : List α) : (xs.flatMap enc).length = xs.length * es:=by
  induction xs with
  | nil=>simp
  | cons x xs ih=>rw [List.flatMap_cons,List.length_append,a,ih,List.length_cons,Nat.succ_mul];omega
def idxA {α : Type} (n : Nat) (xs : List α) (i : Int) : Option α:=if 0≤i∧i < n then xs[i.toNat]? else none
def andI (k : IntKind) (x y : Int) : Int:=k.wrap (BitVec.ofInt k.bits x &&& BitVec.ofInt k.bits y).toNat
def xorI (k : IntKind) (x y : Int) : Int:=k.wrap (BitVec.ofInt k.bits x ^^^ BitVec.ofInt k.bits y).toNat
section
variable {P : Program} {T : Tab} {base : Nat} {ops : Array Oper} {dr : Dr} {l : List Oper} {sl : List (Nat × V)} {hp : List (Nat × Blk)} {nx : Nat} {K : AS→Prop} {ty : TypeId} {pos : String} {af : Array Edge} {t : Tmp} {g : Option (Nat × Bool)}
theorem q16f {α β : Type} (f : α→β) (cs : List α) (j n : Nat) : sub (cs.map f) j n = (sub cs j n).map (·.map f):=by
  unfold sub;simp only [List.length_map];split
  · simp [List.map_take,List.map_drop]
  · rfl
theorem q9u {α : Type} {n : Nat} {xs : List α} {i : Int} {v : α} (h : idxA n xs i = some v) : 0≤i∧i < n∧xs[i.toNat]? = some v:=by
  unfold idxA at h;split at h
  · rename_i a;exact ⟨a.1,a.2,h⟩
  · cases h
theorem qnh {α : Type} {x y : Operand} {a : TypeId} {i : TI} {k : IntKind} {n : Int} {enc : α→List DV} {v : α} (xs : List α) (w : V) (r : idxA i.len xs n = some v) (b : ∀ x,(enc x).length = i.esize) (o : K4 ops ⟨sl,hp,nx⟩ ⟨some t,.index a x y,ty,pos,af,g⟩ = some true) (s : T a = some i)
    (p : AS.ev ⟨sl,hp,nx⟩ x = some (.d (.agg (xs.flatMap enc)))) (j : AS.ev ⟨sl,hp,nx⟩ y = some (.d (.int k n))) (q : i.kind = .array) (c : pack i.eagg ((enc v).map .d) = some w)
    (h : OpsK P T base ops dr l ⟨(t,w)::sl,hp,nx⟩ K) : OpsK P T base ops dr (⟨some t,.index a x y,ty,pos,af,g⟩::l) ⟨sl,hp,nx⟩ K:=by
  obtain ⟨m,u,f⟩:=q9u r;refine Yr o (v:=w) (st1:=⟨sl,hp,nx⟩) ?_ h (U4 rfl);simp only [opFn,s,p,j,q,agD];rw [Q1 ⟨m,u⟩,q16f,qiq b f];simp only [Option.map_some,c]
theorem Jj {α : Type} {x y : Operand} {a : TypeId} {i : TI} {k : IntKind} {n : Int} {m es : Nat} {v : α} {xs : List α} (p : idxA i.len xs n = some v) (f : K4 ops ⟨sl,hp,nx⟩ ⟨some t,.indexAddr a x y,ty,pos,af,g⟩ = some true) (q : T a = some i)
    (j : AS.ev ⟨sl,hp,nx⟩ x = some (.ref m es 0 0)) (b : AS.ev ⟨sl,hp,nx⟩ y = some (.d (.int k n))) (o : i.kind = .array)
    (h : OpsK P T base ops dr l ⟨(t,.ref m es 0 (n.toNat * i.esize))::sl,hp,nx⟩ K) : OpsK P T base ops dr (⟨some t,.indexAddr a x y,ty,pos,af,g⟩::l) ⟨sl,hp,nx⟩ K:=by
  obtain ⟨c,r,_⟩:=q9u p;exact Yr f (v:=.ref m es 0 (n.toNat * i.esize)) (st1:=⟨sl,hp,nx⟩) (by simp [opFn,j,b,q,q4g,o,c,r]) h (U4 rfl)
theorem q4s {α : Type} {p : Operand} {a : TypeId} {i : TI} {m es sz q : Nat} {n : Int} {xs : List α} {enc : α→List DV} {v : α} (w : V) (k : idxA q xs n = some v) (b : ∀ x,(enc x).length = sz) (f : K4 ops ⟨sl,hp,nx⟩ ⟨some t,.load a p,ty,pos,af,g⟩ = some true) (o : T a = some i)
    (j : AS.ev ⟨sl,hp,nx⟩ p = some (.ref m es 0 (n.toNat * sz))) (hb : find hp m = some (.dat es [xs.flatMap enc])) (hs : sz = i.size) (c : (q1n i.agg (enc v)).map .d = some w)
    (h : OpsK P T base ops dr l ⟨(t,w)::sl,hp,nx⟩ K) (r : okF dr l.length (fp ⟨sl,hp,nx⟩ (.load a p)) = true:=by rfl) : OpsK P T base ops dr (⟨some t,.load a p,ty,pos,af,g⟩::l) ⟨sl,hp,nx⟩ K:=
  qee f o j hb rfl (by rw [← hs];exact qiq b (q9u k).2.2) c h r
theorem q16h {α : Type} {enc : α→List DV} {es : Nat} (b : ∀ x,(enc x).length = es) {xs : List α} {k off s : Nat} {v : α} {r : List DV} (h : xs[k]? = some v) (hs : sub (enc v) off s = some r) : sub (xs.flatMap enc) (k * es + off) s = some r:=by
  have c:=qiq b h;unfold sub at c hs ⊢;split at c
  · rename_i d;split at hs
    · rename_i a;rw [b] at a;have e : ((xs.flatMap enc).drop (k * es)).take es = enc v:=qd9 c;rw [Q1 q6,← hs,← e,← List.drop_drop];congr 1;rw [List.drop_take,List.take_take,Nat.min_eq_left q6]
    · cases hs
  · cases c
theorem qhr {α : Type} {p : Operand} {a : TypeId} {i : TI} {m es sz q off : Nat} {n : Int} {xs : List α} {enc : α→List DV} {v : α} {r : List DV} (w : V) (k : idxA q xs n = some v) (b : ∀ x,(enc x).length = sz) (f : K4 ops ⟨sl,hp,nx⟩ ⟨some t,.load a p,ty,pos,af,g⟩ = some true) (o : T a = some i)
    (j : AS.ev ⟨sl,hp,nx⟩ p = some (.ref m es 0 (n.toNat * sz + off))) (hb : find hp m = some (.dat es [xs.flatMap enc])) (hs : sub (enc v) off i.size = some r) (c : (q1n i.agg r).map .d = some w)
    (h : OpsK P T base ops dr l ⟨(t,w)::sl,hp,nx⟩ K) (s : okF dr l.length (fp ⟨sl,hp,nx⟩ (.load a p)) = true:=by rfl) : OpsK P T base ops dr (⟨some t,.load a p,ty,pos,af,g⟩::l) ⟨sl,hp,nx⟩ K:=
  qee f o j hb rfl (q16h b (q9u k).2.2 hs) c h s
theorem qef {α : Type} {p x : Operand} {k : TypeId} {i : TI} {m es sz z : Nat} {n : Int} {xs : List α} {enc : α→List DV} {v : α} (c : α) {u : V} (w : idxA z xs n = some v) (a : ∀ x,(enc x).length = sz) (r : K4 ops ⟨sl,hp,nx⟩ ⟨none,.store k p x,ty,pos,af,g⟩ = some true) (y : T k = some i)
    (hp' : AS.ev ⟨sl,hp,nx⟩ p = some (.ref m es 0 (n.toNat * sz))) (s : AS.ev ⟨sl,hp,nx⟩ x = some u) (hb : find hp m = some (.dat es [xs.flatMap enc])) (hs : sz = i.size) (q : cellsOf u = (enc c).map .d) (t : (enc c).all Zv = true)
    (h : OpsK P T base ops dr l ⟨sl,repl hp m (.dat es [(xs.set n.toNat c).flatMap enc]),nx⟩ K) (hF : okO dr l.length ⟨sl,hp,nx⟩ (.store k p x) ⟨sl,repl hp m (.dat es [(xs.set n.toNat c).flatMap enc]),nx⟩ = true:=by rfl) : OpsK P T base ops dr (⟨none,.store k p x,ty,pos,af,g⟩::l) ⟨sl,hp,nx⟩ K:=by
  have b:=Kj (q9u w).2.2;refine Yr r (v:=.dead) (st1:=⟨sl,repl hp m (.dat es [(xs.set n.toNat c).flatMap enc]),nx⟩) ?_ h hF;have f : (cellsOf u).all Kt = true:=by rw [q,List.all_map];exact t
  have j : (cellsOf u).length = i.size:=by rw [q,List.length_map,a];exact hs
  have o : n.toNat * sz + i.size≤(xs.flatMap enc).length:=by
    rw [qtn a,← hs,← Nat.succ_mul];exact Nat.mul_le_mul_right _ b
  simp only [opFn,y,hp',s,Ub,AS.blk,hb,Nat.beq_refl];rw [Q2 (by simp [f,j])];simp only [List.getElem?_cons_zero];rw [Q1 o,q,qft];simp only [q15x a b,AS.setBlk,List.set_cons_zero];rfl
theorem q91 {α : Type} {st : AS} {ρ : Nat→Nat} {fz ph : List Nat} {nx n es : Nat} {w : Nat × Nat} {ys : List α} {enc : α→List DV} (a : w.1 + w.2≤ys.length) (hb : st.blk n = some (.dat es (ys.map enc))) (b : n∈fz) : Wv st ρ fz ph nx (.hs n es w.1 w.2) (.d (.sl es (((ys.drop w.1).take w.2).map enc))):=
  .frz hb b (by simpa using a) (by rw [List.map_take,List.map_drop]) rfl
theorem qqr {hp : List (Nat × Blk)} {a : List V} {ds C : List DV} (h : Kz hp a = some ds) : Kz hp (a ++ C.map .d) = some (ds ++ C):=by
  induction a generalizing ds with
  | nil=>
    simp [Kz] at h;subst h
    induction C with
    | nil=>rfl
    | cons c C ih=>
      simp only [List.nil_append,List.map_cons] at ih ⊢;simp only [Kz];rw [show toD hp 8 (.d c) = some c from rfl,ih]
  | cons v a ih=>
    simp only [Kz] at h;split at h <;> simp at h
    rename_i x l f b;subst h;simp only [List.cons_append,Kz,f,ih b]
theorem qtp {a : List V} {C : List DV} : fpC (a ++ C.map .d) = fpC a:=by
  unfold fpC;have : (C.map V.d).all V.isD = true:=by rw [List.all_map];simp [V.isD]
  rw [List.all_append,this,Bool.and_true]
theorem Kw {c : Call} {f : FuncId} {C ds : List DV} {r : DV} (a : List V) (b : Pure P T f (ds ++ C) r) (j : K4 ops ⟨sl,hp,nx⟩ ⟨some t,.call c,ty,pos,af,g⟩ = some true) (k : callee ⟨sl,hp,nx⟩ c = some (f,a ++ C.map .d)) (hd : Kz hp a = some ds)
    (hs : (a.all V.isD = true∨r.scalar = true)) (h : OpsK P T base ops dr l ⟨(t,.d r)::sl,hp,nx⟩ K) (m : okF dr l.length (fpC a) = true:=by rfl) : OpsK P T base ops dr (⟨some t,.call c,ty,pos,af,g⟩::l) ⟨sl,hp,nx⟩ K:=by
  refine qnf j rfl k (qqr hd) ?_ b h (by rw [qtp];exact m);rcases hs with hs | hs
  · left;rw [List.all_append,hs,Bool.true_and,List.all_map];simp [V.isD]
  · exact .inr hs
end
end Go.Am
namespace Go.Am
open Go
theorem Y4 {base : Nat} {st st' : AS} (l : List (Nat × Nat)) (fz ph : List Nat) (g : wkOk base l fz ph st'.hp st'.nx = true) (hs : WkL st (rho l) fz ph st'.nx st'.sl) (q : WkH st (rho l) fz ph st'.nx st'.hp) : Wk base (rho l) fz ph st st':=by
  simp only [wkOk,Bool.and_eq_true,Nat.ble_eq,List.all_eq_true] at g;obtain ⟨⟨⟨⟨u,p⟩,r⟩,v⟩,o⟩:=g;refine ⟨?_,?_,?_,?_,?_,u,?_,?_⟩
  · exact fun t x h=>hs.get (Jh h)
  · exact fun n y h=>q.get (Jh h)
  · intro n m b c a k d j s;have:=o _ (Jh a);simp only [Bool.or_eq_true,Bool.and_eq_true,q6p,List.all_eq_true,Bool.not_eq_true'] at this;rcases this with h | h
    · exact absurd h d
    · have:=h.2 _ (Jh k);rcases this with (f | f) | f
      · exact absurd f j
      · rw [s] at f;simp at f
      · exact Nat.eq_of_beq_eq_true f
  · intro n b a d w;have:=o _ (Jh a);simp only [Bool.or_eq_true,Bool.and_eq_true,q6p,Bool.not_eq_true'] at this;rcases this with h | h
    · exact absurd h d
    · rw [q6p.2 w] at h;exact absurd h.1 qg
  · intro n a;unfold rho;split
    · rename_i m k;have:=p _ (Jh k);simp at this;omega
    · rfl
  · exact fun n a=>r n a
  · exact fun n a=>v n a
def q97 (l l3 : List (Nat × Nat)) (k k' nx nxN : Nat) : Bool:=
  (List.range k).all (fun i=>Nat.blt (rho l i) nx && Nat.beq (rho l3 (rho l i)) i) && (List.range nx).all (fun m=>(Nat.blt (rho l3 m) k && Nat.beq (rho l (rho l3 m)) m) || Nat.ble k' (rho l3 m)) && Nat.ble nx nxN
def OldL (l : List (Nat × Nat)) (k : Nat) (hp hpR : List (Nat × Blk)) : List (Nat × Blk)→Prop
  | []=>True
  | (m,b)::r=>(find hpR m = some b∨(find hp m = some b∧(List.range k).all (fun i=>!(Nat.beq (rho l i) m)) = true))∧OldL l k hp hpR r
theorem OldL.get {l : List (Nat × Nat)} {k : Nat} {hp a : List (Nat × Blk)} : ∀ {r : List (Nat × Blk)},OldL l k hp a r→∀ m b,(m,b)∈r→find a m = some b∨(find hp m = some b∧∀ i,i < k→rho l i≠m)
  | [],_,m,b,h=>by cases h
  | (m',b')::r,h,m,b,c=>by
    rcases List.mem_cons.1 c with e | c
    · cases e
      refine h.1.imp (fun x=>x) fun ⟨d,h2⟩=>⟨d,fun i hi e=>?_⟩
      have:=List.all_eq_true.1 h2 i (List.mem_range.2 hi)
      rw [e] at this;simp at this
    · exact OldL.get h.2 m b c
section
variable {P : Program} {T : Tab} {base : Nat} {ops : Array Oper} {l : List Oper} {sl : List (Nat × V)} {hp : List (Nat × Blk)} {nx : Nat} {K : AS→Prop} {ty : TypeId} {pos : String} {af : Array Edge} {dst : Option Tmp} {g : Option (Nat × Bool)}
theorem Zx {c : Call} {f : FuncId} {j : List V} {hp0 o : List (Nat × Blk)} {k r : Nat} {vR : V} (w y : List (Nat × Nat)) (v : List V) (x : V) (a q : List (Nat × Blk)) (d : Nat) (he : K8 P T f j hp0 k vR o r) (z : K4 ops ⟨sl,hp,nx⟩ ⟨dst,.call c,ty,pos,af,g⟩ = some true) (hc : callee ⟨sl,hp,nx⟩ c = some (f,v)) (p : v.length = j.length)
    (s : Wk 0 (rho w) [] [] ⟨Y7 0 v,hp,nx⟩ ⟨Y7 0 j,hp0,k⟩) (t : Wk 0 (rho y) [] [] ⟨[(0,vR)],o,r⟩ ⟨[(0,x)],a,d⟩) (hb : q97 w y k r nx d = true) (hold : OldL w k hp a q)
    (h : OpsK P T base ops none l ((⟨sl,q,d⟩ : AS).putD dst x) K) : OpsK P T base ops none (⟨dst,.call c,ty,pos,af,g⟩::l) ⟨sl,hp,nx⟩ K:=by
  obtain ⟨st2,e2,k2⟩:=h;refine ⟨st2,.callF z rfl hc p s he t ⟨?_,?_,?_,?_,?_⟩ e2,k2⟩
  · intro i hi;simp only [q97,Bool.and_eq_true,List.all_eq_true,List.mem_range] at hb;have:=hb.1.1 i hi;exact ⟨by simpa [Nat.blt_eq] using this.1,Nat.eq_of_beq_eq_true this.2⟩
  · intro m u;simp only [q97,Bool.and_eq_true,List.all_eq_true,List.mem_range,Bool.or_eq_true] at hb;rcases hb.1.2 m u with n | n
    · exact .inl ⟨by simpa [Nat.blt_eq] using n.1,Nat.eq_of_beq_eq_true n.2⟩
    · exact .inr (by simpa using n)
  · intro m u;cases u
  · exact fun m b n=>hold.get m b (Jh n)
  · simp only [q97,Bool.and_eq_true] at hb;simpa using hb.2
end
section
variable {P : Program} {T : Tab} {base : Nat} {ops : Array Oper} {l : List Oper} {dr : Dr} {sl : List (Nat × V)} {hp : List (Nat × Blk)} {nx : Nat} {K : AS→Prop} {ty : TypeId} {pos : String} {af : Array Edge} {dst : Option Tmp} {g : Option (Nat × Bool)}
theorem qx7 {c : Call} {f : FuncId} {j : List V} {es p : Nat} {xs : List (List DV)} {hp' : List (Nat × Blk)} {k : V} {r : DV} (n : Nat) (s : List V) (fz : List Nat) (y : K8 P T f j [(0,.dat es xs)] 1 k hp' p) (z : ∀ N,Wv ⟨[(0,k)],hp',p⟩ (rhoW n p) fz [] N k (.d r))
    (v : K4 ops ⟨sl,hp,nx⟩ ⟨dst,.call c,ty,pos,af,g⟩ = some true) (hc : callee ⟨sl,hp,nx⟩ c = some (f,s)) (o : s.map (vW n) = j) (u : find hp n = some (.dat es xs)) (w : Nat.blt n nx = true) (hF : okF dr l.length (some [n],[n]) = true)
    (h : OpsK P T base ops dr l ((⟨sl,q38 n hp,nx⟩ : AS).putD dst (.d r)) K) : OpsK P T base ops dr (⟨dst,.call c,ty,pos,af,g⟩::l) ⟨sl,hp,nx⟩ K:=by
  obtain ⟨st2,e2,x⟩:=h;refine ⟨st2,.callW (fz:=fz) v rfl hc o u (by simpa [Nat.blt_eq] using w) y (fun N=>?_) hF e2,x⟩;refine ⟨fun t v1 a=>?_,fun m b hb=>?_,fun m m2 b _ hb=>?_,fun m b hb=>?_,fun m q=>q6,Nat.zero_le _,fun m _=>Nat.zero_le _,fun m q=>by simp at q⟩
  · have a : find [(0,V.d r)] t = some v1:=a;rw [Kp] at a;split at a
    · rename_i e;subst e;cases a;exact ⟨k,rfl,z N⟩
    · simp [find] at a
  · exact absurd hb (by simp [AS.blk,find])
  · exact absurd hb (by simp [AS.blk,find])
  · exact absurd hb (by simp [AS.blk,find])
end
theorem Kd {P : Program} {T : Tab} {f : FuncId} {fn : Func} {c : Code} {g : List V} {hp b : List (Nat × Blk)} {nx j : Nat} {vR : V} (k : P.funcs[f]? = some fn) (hb : fn.body = some c) (a : (fn.name == "runtime.NumGoroutine") = false) (d : codeOk fn.ntmps c = true) (l : Nat.ble g.length fn.ntmps = true)
    (h : RunK P T nx [c] ⟨Y7 0 g,hp,nx⟩ (fun ex st=>(ex = .nor∨ex = .ret)∧∃ v,resV T st fn.results.toList = some v∧WkE nx ⟨[(0,v)],st.hp,st.nx⟩ ⟨[(0,vR)],b,j⟩)) : K8 P T f g hp nx vR b j:=by
  obtain ⟨ex,st',e,m,v,n,ρ,fz,ph,w⟩:=q6b h;exact .wk (.mk k hb a d (by simpa using l) e m n) w
def shlK (k : IntKind) (x y : Int) : Option Int:=if y < 0 then none else some (k.wrap (x * 2 ^ (min y.toNat k.bits)))
section
variable {P : Program} {T : Tab} {base : Nat} {ops : Array Oper} {dr : Dr} {l : List Oper} {sl : List (Nat × V)} {hp : List (Nat × Blk)} {nx : Nat} {K : AS→Prop} {ty : TypeId} {pos : String} {af : Array Edge} {t : Tmp} {g : Option (Nat × Bool)}
theorem qxh {x y : Operand} {j f : TypeId} {a b r : Int} {k p : IntKind} (c : shlK k a b = some r) (o : K4 ops ⟨sl,hp,nx⟩ ⟨some t,.binOp .shl j x y f,ty,pos,af,g⟩ = some true) (q : AS.ev ⟨sl,hp,nx⟩ x = some (.d (.int k a))) (m : AS.ev ⟨sl,hp,nx⟩ y = some (.d (.int p b)))
    (h : OpsK P T base ops dr l ⟨(t,.d (.int k r))::sl,hp,nx⟩ K) : OpsK P T base ops dr (⟨some t,.binOp .shl j x y f,ty,pos,af,g⟩::l) ⟨sl,hp,nx⟩ K:=by
  unfold shlK at c;split at c
  · cases c
  · rename_i n;cases c;exact Yr o (v:=.d (.int k (k.wrap (a * 2 ^ (min b.toNat k.bits))))) (st1:=⟨sl,hp,nx⟩) (by simp [opFn,q,m,binD,qaw,n]) h (U4 rfl)
end
def K5 (n m : Nat) : Option Unit:=if n = m then some () else none
theorem Ke {n m : Nat} {u : Unit} (h : K5 n m = some u) : n = m:=by
  unfold K5 at h;split at h
  · assumption
  · cases h
def q65 (s : ByteArray) (i : Int) : Option Int:=(if 0≤i then s[i.toNat]? else none).map fun b=>(b.toNat : Int)
theorem qxc {P : Program} {T : Tab} {base : Nat} {ops : Array Oper} {dr : Dr} {l : List Oper} {sl : List (Nat × V)} {hp : List (Nat × Blk)} {nx : Nat} {K : AS→Prop} {ty : TypeId} {pos : String} {af : Array Edge} {t : Tmp} {g : Option (Nat × Bool)} {x y : Operand} {a : TypeId} {i : TI} {k : IntKind} {n v : Int} (s : ByteArray) (c : q65 s n = some v) (j : K4 ops ⟨sl,hp,nx⟩ ⟨some t,.index a x y,ty,pos,af,g⟩ = some true) (p : T a = some i)
    (m : AS.ev ⟨sl,hp,nx⟩ x = some (.d (.str s))) (f : AS.ev ⟨sl,hp,nx⟩ y = some (.d (.int k n))) (o : i.kind = .str)
    (h : OpsK P T base ops dr l ⟨(t,.d (.int .u8 v))::sl,hp,nx⟩ K) : OpsK P T base ops dr (⟨some t,.index a x y,ty,pos,af,g⟩::l) ⟨sl,hp,nx⟩ K:=by
  unfold q65 at c;rw [Yc] at c;obtain ⟨b,hb,rfl⟩:=c;refine Yr j (v:=.d (.int .u8 b.toNat)) (st1:=⟨sl,hp,nx⟩) ?_ h (U4 rfl);simp only [opFn,p,m,f,o,hb,Option.map_some]
open Classical in
noncomputable def lim {α : Type} (f : Nat→Option α) : Option α:=if h : ∃ r n,f n = some r then some h.choose else none
theorem qe4 {α : Type} {f : Nat→Option α} {r : α} (h : lim f = some r) : ∃ n,f n = some r:=by
  unfold lim at h;split at h
  · rename_i a;cases h;exact a.choose_spec
  · cases h
theorem qv0 {α : Type} {f : Nat→Option α} {n : Nat} {r : α} (h : f n = some r) : ∃ a,lim f = some a:=by
  unfold lim;rw [dif_pos ⟨r,n,h⟩];exact ⟨_,rfl⟩
theorem Ys {P : Program} {T : Tab} {base : Nat} {c : Code} {cs : List Code} {st : AS} {K : Ex→AS→Prop} (h : RunK P T base (c::.loop c::cs) st K) : RunK P T base (.loop c::cs) st K:=by
  obtain ⟨ex,st1,b,a⟩:=h
  cases ex with
  | nor=>
    obtain ⟨d,st2,g,f⟩:=a;exact ⟨d,st2,.loopN b g,f⟩
  | exit i=>exact ⟨_,_,.loopX b qg,a⟩
  | ret=>exact ⟨_,_,.loopX b qg,a⟩
def idxW {α : Type} (xs : List α) (w : Nat × Nat) (k : Int) : Option α:=if 0≤k∧k < w.2 then xs[w.1 + k.toNat]? else none
theorem q6l {α : Type} {xs : List α} {w : Nat × Nat} {k : Int} {v : α} (h : idxW xs w k = some v) : idx xs ((w.1 : Int) + k) = some v:=by
  unfold idxW at h;split at h
  · rename_i a;unfold idx;rw [Q1 q6];rw [show ((w.1 : Int) + k).toNat = w.1 + k.toNat by omega];exact h
  · cases h
def Jn (n : Nat) (w : Nat × Nat) : Option Unit:=if w.1 + w.2≤n then some () else none
theorem q90 {n : Nat} {w : Nat × Nat} {u : Unit} (h : Jn n w = some u) : w.1 + w.2≤n:=by
  unfold Jn at h;split at h
  · assumption
  · cases h
def clrw {α : Type} (xs : List α) (w : Nat × Nat) (z : α) : List α:=splice xs w.1 (List.replicate w.2 z)
theorem qdi {α : Type} {xs : List α} {w : Nat × Nat} {z : α} (h : w.1 + w.2≤xs.length) : (clrw xs w z).length = xs.length:=by
  unfold clrw splice;simp;omega
section
variable {P : Program} {T : Tab} {base : Nat} {ops : Array Oper} {dr : Dr} {l : List Oper} {sl : List (Nat × V)} {hp : List (Nat × Blk)} {nx : Nat} {K : AS→Prop} {ty : TypeId} {pos : String} {af : Array Edge} {t : Tmp} {g : Option (Nat × Bool)}
theorem q6u {α : Type} {x y : Operand} {a : TypeId} {i : TI} {k : IntKind} {n : Int} {m es : Nat} {xs : List α} {w : Nat × Nat} {v : α} (b : idxW xs w n = some v) (j : K4 ops ⟨sl,hp,nx⟩ ⟨some t,.indexAddr a x y,ty,pos,af,g⟩ = some true) (r : T a = some i)
    (o : AS.ev ⟨sl,hp,nx⟩ x = some (.hs m es w.1 w.2)) (f : AS.ev ⟨sl,hp,nx⟩ y = some (.d (.int k n))) (p : i.kind = .slice) (q : es = i.esize)
    (h : OpsK P T base ops dr l ⟨(t,.ref m es ((w.1 : Int) + n).toNat 0)::sl,hp,nx⟩ K) : OpsK P T base ops dr (⟨some t,.indexAddr a x y,ty,pos,af,g⟩::l) ⟨sl,hp,nx⟩ K:=by
  have c : 0≤n∧n < w.2:=by
    unfold idxW at b;split at b
    · assumption
    · cases b
  refine qx9 j r o f p q c.1 c.2 ?_;rw [show ((w.1 : Int) + n).toNat = w.1 + n.toNat by omega] at h;exact h
theorem qng {α : Type} {x : Operand} {a : TypeId} {i : TI} {n es : Nat} {xs : List α} {enc : α→List DV} (z : α) {w : Nat × Nat} (b : w.1 + w.2≤xs.length) (c : K4 ops ⟨sl,hp,nx⟩ ⟨none,.call {callee:=.builtin .clear,args:=#[x],argTypes:=#[a]},ty,pos,af,g⟩ = some true) (m : T a = some i)
    (f : AS.ev ⟨sl,hp,nx⟩ x = some (.hs n es w.1 w.2)) (hb : find hp n = some (.dat es (xs.map enc))) (j : i.kind = .slice) (k : i.esize = es) (p : i.ezero = enc z)
    (h : OpsK P T base ops dr l ⟨sl,repl hp n (.dat es ((clrw xs w z).map enc)),nx⟩ K) (o : okO dr l.length ⟨sl,hp,nx⟩ (.call {callee:=.builtin .clear,args:=#[x],argTypes:=#[a]}) ⟨sl,repl hp n (.dat es ((clrw xs w z).map enc)),nx⟩ = true:=by rfl) :
    OpsK P T base ops dr (⟨none,.call {callee:=.builtin .clear,args:=#[x],argTypes:=#[a]},ty,pos,af,g⟩::l) ⟨sl,hp,nx⟩ K:=by
  subst k;refine Yr c (v:=.d (.tup [])) (st1:=⟨sl,repl hp n (.dat i.esize ((clrw xs w z).map enc)),nx⟩) ?_ h o;simp only [opFn,evL,f,Yj];simp only [List.getElem?_toArray,List.getElem?_cons_zero,m];rw [Q1 ⟨j,by simp [Jg]⟩];simp only [Ug,AS.blk,hb];rw [Q1 ⟨by simpa using b,trivial⟩,p];simp [clrw,splice,AS.setBlk]
end
def arr3 {α : Type} (xs : List α) : Option (α × α × α):=match xs with
  | [a0,a1,a2]=>some (a0,a1,a2)
  | _=>none
theorem qqx {α : Type} {xs : List α} {v : α × α × α} {enc : α→List DV} (h : arr3 xs = some v) : xs.flatMap enc = enc v.1 ++ (enc v.2.1 ++ (enc v.2.2)):=by
  unfold arr3 at h;split at h
  · cases h;simp
  · cases h
def arr6 {α : Type} (xs : List α) : Option (α × α × α × α × α × α):=match xs with
  | [a0,a1,a2,a3,a4,a5]=>some (a0,a1,a2,a3,a4,a5)
  | _=>none
theorem qqy {α : Type} {xs : List α} {v : α × α × α × α × α × α} {enc : α→List DV} (h : arr6 xs = some v) : xs.flatMap enc = enc v.1 ++ (enc v.2.1 ++ (enc v.2.2.1 ++ (enc v.2.2.2.1 ++ (enc v.2.2.2.2.1 ++ (enc v.2.2.2.2.2))))):=by
  unfold arr6 at h;split at h
  · cases h;simp
  · cases h
section
variable {P : Program} {T : Tab} {base : Nat} {ops : Array Oper} {dr : Dr} {l : List Oper} {sl : List (Nat × V)} {hp : List (Nat × Blk)} {nx : Nat} {K : AS→Prop} {ty : TypeId} {pos : String} {af : Array Edge} {t : Tmp} {g : Option (Nat × Bool)}
theorem qni {α : Type} {p : Operand} {a : TypeId} {i : TI} {m es : Nat} {xs : List α} {enc : α→List DV} {cs : List DV} (w : V) (b : xs.flatMap enc = cs) (j : K4 ops ⟨sl,hp,nx⟩ ⟨some t,.load a p,ty,pos,af,g⟩ = some true) (f : T a = some i)
    (k : AS.ev ⟨sl,hp,nx⟩ p = some (.ref m es 0 0)) (hb : find hp m = some (.dat es [xs.flatMap enc])) (hs : i.size = cs.length) (c : (q1n i.agg cs).map .d = some w)
    (h : OpsK P T base ops dr l ⟨(t,w)::sl,hp,nx⟩ K) (n : okF dr l.length (fp ⟨sl,hp,nx⟩ (.load a p)) = true:=by rfl) : OpsK P T base ops dr (⟨some t,.load a p,ty,pos,af,g⟩::l) ⟨sl,hp,nx⟩ K:=by
  rw [b] at hb;exact qee j f k hb rfl (by rw [hs];exact q16g) c h n
end
end Go.Am
namespace Go.Am
open Go
theorem J {α : Sort _} {a : α} : a = a:=rfl
abbrev qa (n : Int) : DV:=.int .i64 n
abbrev q7 (n : Int) : V:=.d (.int .i64 n)
abbrev Q3 (b : Bool) : V:=.d (.bool b)
section
variable {P : Program} {T : Tab} {base : Nat} {ops : Array Oper} {dr : Dr} {l : List Oper} {sl : List (Nat × V)} {hp : List (Nat × Blk)} {nx : Nat} {K : AS→Prop} {ty : TypeId} {pos : String} {af : Array Edge} {t : Tmp} {g : Option (Nat × Bool)} {v : V}
theorem U {x : Operand} (a : (K4 ops ⟨sl,hp,nx⟩ ⟨some t,.move x,ty,pos,af,g⟩,AS.ev ⟨sl,hp,nx⟩ x) = (some true,some v))
    (h : OpsK P T base ops dr l ⟨(t,v)::sl,hp,nx⟩ K) : OpsK P T base ops dr (⟨some t,.move x,ty,pos,af,g⟩::l) ⟨sl,hp,nx⟩ K:=qhs (Prod.mk.inj a).1 (Prod.mk.inj a).2 h
theorem qb {x : Operand} (a : (K4 ops ⟨sl,hp,nx⟩ ⟨some t,.assign x,ty,pos,af,g⟩,AS.ev ⟨sl,hp,nx⟩ x) = (some true,some v))
    (h : OpsK P T base ops dr l ⟨(t,v)::sl,hp,nx⟩ K) : OpsK P T base ops dr (⟨some t,.assign x,ty,pos,af,g⟩::l) ⟨sl,hp,nx⟩ K:=qx6 (Prod.mk.inj a).1 (Prod.mk.inj a).2 h
theorem O {op : Op} (v : V) (a : (K4 ops ⟨sl,hp,nx⟩ ⟨some t,op,ty,pos,af,g⟩,opFn T ⟨sl,hp,nx⟩ op) = (some true,some (v,⟨sl,hp,nx⟩))) (h : OpsK P T base ops dr l ⟨(t,v)::sl,hp,nx⟩ K)
    (b : okO dr l.length ⟨sl,hp,nx⟩ (op) ⟨sl,hp,nx⟩ = true:=by rfl) : OpsK P T base ops dr (⟨some t,op,ty,pos,af,g⟩::l) ⟨sl,hp,nx⟩ K:=qxk v (Prod.mk.inj a).1 (Prod.mk.inj a).2 h b
theorem Q8 {op : Op} (n : Nat) (b : Blk) (a : (K4 ops ⟨sl,hp,nx⟩ ⟨none,op,ty,pos,af,g⟩,opFn T ⟨sl,hp,nx⟩ op) = (some true,some (.dead,⟨sl,repl hp n b,nx⟩))) (h : OpsK P T base ops dr l ⟨sl,repl hp n b,nx⟩ K) (c : okO dr l.length ⟨sl,hp,nx⟩ (op) ⟨sl,repl hp n b,nx⟩ = true:=by rfl) : OpsK P T base ops dr (⟨none,op,ty,pos,af,g⟩::l) ⟨sl,hp,nx⟩ K:=
  qxj n b (Prod.mk.inj a).1 (Prod.mk.inj a).2 h c
theorem Qw {op : Op} (v : V) (b : Blk) (a : (K4 ops ⟨sl,hp,nx⟩ ⟨some t,op,ty,pos,af,g⟩,opFn T ⟨sl,hp,nx⟩ op) = (some true,some (v,⟨sl,(nx,b)::hp,nx + 1⟩))) (h : OpsK P T base ops dr l ⟨(t,v)::sl,(nx,b)::hp,nx + 1⟩ K) (c : okO dr l.length ⟨sl,hp,nx⟩ (op) ⟨sl,(nx,b)::hp,nx + 1⟩ = true:=by rfl) : OpsK P T base ops dr (⟨some t,op,ty,pos,af,g⟩::l) ⟨sl,hp,nx⟩ K:=
  qxf v b (Prod.mk.inj a).1 (Prod.mk.inj a).2 h c
theorem q6v {α : Type} {x : Operand} {a : TypeId} {i : TI} {es : Nat} {xs : List α} {enc : α→List DV} (n : Int) (k : (xs.length : Int) = n) (f : K4 ops ⟨sl,hp,nx⟩ ⟨some t,.call {callee:=.builtin .len,args:=#[x],argTypes:=#[a]},ty,pos,af,g⟩ = some true) (c : T a = some i) (b : i.kind = .slice) (j : AS.ev ⟨sl,hp,nx⟩ x = some (.d (.sl es (xs.map enc))))
    (h : OpsK P T base ops dr l ⟨(t,.d (.int .i64 n))::sl,hp,nx⟩ K) : OpsK P T base ops dr (⟨some t,.call {callee:=.builtin .len,args:=#[x],argTypes:=#[a]},ty,pos,af,g⟩::l) ⟨sl,hp,nx⟩ K:=by
  subst k;exact qnj f c b j h
theorem Ql {α : Type} {x y : Operand} {a : TypeId} {i : TI} {k : IntKind} {n : Int} {es : Nat} {xs : List α} {enc : α→List DV} {v : α} (m : idx xs n = some v)
    (b : (K4 ops ⟨sl,hp,nx⟩ ⟨some t,.indexAddr a x y,ty,pos,af,g⟩,T a,AS.ev ⟨sl,hp,nx⟩ x,AS.ev ⟨sl,hp,nx⟩ y,i.kind,es) = (some true,some i,some (.d (.sl es (xs.map enc))),some (.d (.int k n)),.slice,i.esize))
    (h : OpsK P T base ops dr l ⟨(t,.dref (enc v) 0)::sl,hp,nx⟩ K) : OpsK P T base ops dr (⟨some t,.indexAddr a x y,ty,pos,af,g⟩::l) ⟨sl,hp,nx⟩ K:=by
  simp only [Prod.mk.injEq] at b;obtain ⟨p,c,f,o,q,j⟩:=b;exact qxb m p c f o q j h
theorem qt {α : Type} {x y : Operand} {a : TypeId} {i : TI} {k : IntKind} {n : Int} {m es len : Nat} {xs : List α} {v : α} (p : idx xs n = some v) (c : len = xs.length)
    (b : (K4 ops ⟨sl,hp,nx⟩ ⟨some t,.indexAddr a x y,ty,pos,af,g⟩,T a,AS.ev ⟨sl,hp,nx⟩ x,AS.ev ⟨sl,hp,nx⟩ y,i.kind,es) = (some true,some i,some (.hs m es 0 len),some (.d (.int k n)),.slice,i.esize))
    (h : OpsK P T base ops dr l ⟨(t,.ref m es n.toNat 0)::sl,hp,nx⟩ K) : OpsK P T base ops dr (⟨some t,.indexAddr a x y,ty,pos,af,g⟩::l) ⟨sl,hp,nx⟩ K:=by
  simp only [Prod.mk.injEq] at b;obtain ⟨r,f,j,q,s,o⟩:=b;exact qxa p c r f j q s o h
theorem Q7 {α : Type} {p : Operand} {a : TypeId} {i : TI} {m es j : Nat} {n : Int} {xs : List α} {enc : α→List DV} {r : List DV} {v : α} (w : V) (o : idx xs n = some v)
    (b : (K4 ops ⟨sl,hp,nx⟩ ⟨some t,.load a p,ty,pos,af,g⟩,T a,AS.ev ⟨sl,hp,nx⟩ p,find hp m,sub (enc v) j i.size,(q1n i.agg r).map V.d) = (some true,some i,some (.ref m es n.toNat j),some (.dat es (xs.map enc)),some r,some w))
    (h : OpsK P T base ops dr l ⟨(t,w)::sl,hp,nx⟩ K) (x : okF dr l.length (fp ⟨sl,hp,nx⟩ (.load a p)) = true:=by rfl) : OpsK P T base ops dr (⟨some t,.load a p,ty,pos,af,g⟩::l) ⟨sl,hp,nx⟩ K:=by
  simp only [Prod.mk.injEq] at b;obtain ⟨s,c,f,q,u,k⟩:=b;exact qxe w o s c f q u k h x
theorem K1 {α : Type} {x : Operand} {a : TypeId} {i : TI} {es : Nat} {xs : List α} {enc : α→List DV}
    (b : (K4 ops ⟨sl,hp,nx⟩ ⟨some t,.call {callee:=.builtin .len,args:=#[x],argTypes:=#[a]},ty,pos,af,g⟩,T a,i.kind,AS.ev ⟨sl,hp,nx⟩ x) = (some true,some i,.slice,some (.d (.sl es (xs.map enc)))))
    (h : OpsK P T base ops dr l ⟨(t,.d (.int .i64 (xs.length : Int)))::sl,hp,nx⟩ K) : OpsK P T base ops dr (⟨some t,.call {callee:=.builtin .len,args:=#[x],argTypes:=#[a]},ty,pos,af,g⟩::l) ⟨sl,hp,nx⟩ K:=by
  simp only [Prod.mk.injEq] at b;obtain ⟨j,c,k,f⟩:=b;exact qnj j c k f h
theorem Qa {c : Call} {f : FuncId} {ds : List DV} {r : DV} {a : List V} (b : Pure P T f ds r) (j : (K4 ops ⟨sl,hp,nx⟩ ⟨some t,.call c,ty,pos,af,g⟩,callee ⟨sl,hp,nx⟩ c,Kz hp a,a.all V.isD) = (some true,some (f,a),some ds,true))
    (h : OpsK P T base ops dr l ⟨(t,.d r)::sl,hp,nx⟩ K) (p : okF dr l.length (fpC a) = true:=by rfl) : OpsK P T base ops dr (⟨some t,.call c,ty,pos,af,g⟩::l) ⟨sl,hp,nx⟩ K:=by
  simp only [Prod.mk.injEq] at j;obtain ⟨n,k,o,m⟩:=j;exact q2t a b n k o (.inl m) h p
theorem Qe {st : AS} {b : List ResultVar} {r : DV} (v : V) (a : (resV T st b,toD st.hp 8 v) = (some v,some r)) : (Ex.ret = .nor∨Ex.ret = .ret)∧∃ v c,resV T st b = some v∧toD st.hp 8 v = some c∧DLe c r:=by
  simp only [Prod.mk.injEq] at a;exact ⟨.inr rfl,v,r,a.1,a.2,.refl _⟩
theorem qd {id : Nat} {ops : Array Oper} {b : Code} {cs : List Code} {st : AS} {K : Ex→AS→Prop} (h : OpsK P T base ops none ops.toList st (fun st'=>RunK P T base (b::cs) st' K)) : RunK P T base (.seq (.region id ops false) b::cs) st K:=qe (qz h)
theorem qs {a ops : Array Oper} {id : Nat} {b : Code} {cs : List Code} {st : AS} {K : Ex→AS→Prop} (h : OpsK P T base ops none ops.toList st (fun st'=>RunK P T base (b::cs) st' K)) : OpsK P T base a dr [] st (fun st'=>RunK P T base (.seq (.region id ops false) b::cs) st' K):=q9 (qe (qz h))
theorem qw {a : Array Oper} {cs : List Code} {st : AS} {K : Ex→AS→Prop} (h : K .ret st) : OpsK P T base a dr [] st (fun st'=>RunK P T base (.ret::cs) st' K):=q9 (Uy h)
theorem qx {a : Array Oper} {st : AS} {K : Ex→AS→Prop} (h : K .nor st) : OpsK P T base a dr [] st (fun st'=>RunK P T base [] st' K):=q9 (Qh h)
theorem K9 {dst : Option Tmp} {c : Call} {f : FuncId} {m : List V} {hp0 j : List (Nat × Blk)} {k s : Nat} {vR : V} (o p : List (Nat × Nat)) (r : List V) (t : V) (n : Nat) (a : List (Nat × Blk)) (b : Nat) (z : K8 P T f m hp0 k vR j s)
    (h : OpsK P T base ops none l ((⟨sl,a,b⟩ : AS).putD dst t) K)
    (x : K4 ops ⟨sl,hp,nx⟩ ⟨dst,.call c,ty,pos,af,g⟩ = some true:=by exact rfl) (hc : callee ⟨sl,hp,nx⟩ c = some (f,r):=by exact rfl) (q : r.length = m.length:=by exact rfl)
    (o1 : wkOk 0 o [] [] hp0 k = true:=by exact rfl)
    (v : WkL ⟨Y7 0 r,hp,nx⟩ (rho o) [] [] k (Y7 0 m):=by
      repeat' first | exact trivial | refine And.intro (Exists.intro _ (And.intro rfl ?_)) ?_ | exact Wv.d (DLe.refl _) | exact Wv.ref rfl qy (ltd rfl) | exact Wv.mp rfl qy (ltd rfl) | exact Wv.hs rfl qy (ltd rfl) | exact Wv.d (DLe.nil _) | refine qfi ?_ | refine qj4 ?_ | refine q13 ?_ | refine WvL.cons ?_ ?_ | exact WvL.nil | exact Wv.dref _ _ | exact Wv.yld rfl qy (ltd rfl))
    (b1 : WkH ⟨Y7 0 r,hp,nx⟩ (rho o) [] [] k hp0:=by
      repeat' first | exact trivial | refine And.intro (And.intro (ltd rfl) (Or.inr (And.intro qy (Exists.intro _ (And.intro rfl ?_))))) ?_ | exact Wb.dat _ _ | exact Wb.mp _ | refine Zl ?_ | refine qj0 ?_ | refine WvC.cons ?_ rfl ?_ | exact WvC.nil | exact Wv.d (DLe.refl _) | exact Wv.ref rfl qy (ltd rfl) | exact Wv.mp rfl qy (ltd rfl) | exact Wv.hs rfl qy (ltd rfl) | exact Wv.d (DLe.nil _))
    (u : wkOk 0 p [] [] (a.take n) b = true:=by exact rfl)
    (y : WkL ⟨[(0,vR)],j,s⟩ (rho p) [] [] b [(0,t)]:=by
      repeat' first | exact trivial | refine And.intro (Exists.intro _ (And.intro rfl ?_)) ?_ | exact Wv.d (DLe.refl _) | exact Wv.ref rfl qy (ltd rfl) | exact Wv.mp rfl qy (ltd rfl) | exact Wv.hs rfl qy (ltd rfl) | exact Wv.d (DLe.nil _) | refine qfi ?_ | refine qj4 ?_ | refine q13 ?_ | refine WvL.cons ?_ ?_ | exact WvL.nil | exact Wv.dref _ _ | exact Wv.yld rfl qy (ltd rfl))
    (w : WkH ⟨[(0,vR)],j,s⟩ (rho p) [] [] b (a.take n):=by
      repeat' first | exact trivial | refine And.intro (And.intro (ltd rfl) (Or.inr (And.intro qy (Exists.intro _ (And.intro rfl ?_))))) ?_ | exact Wb.dat _ _ | exact Wb.mp _ | refine Zl ?_ | refine qj0 ?_ | refine WvC.cons ?_ rfl ?_ | exact WvC.nil | exact Wv.d (DLe.refl _) | exact Wv.ref rfl qy (ltd rfl) | exact Wv.mp rfl qy (ltd rfl) | exact Wv.hs rfl qy (ltd rfl) | exact Wv.d (DLe.nil _))
    (hb : q97 o p k s nx b = true:=by exact rfl)
    (hold : OldL o k hp (a.take n) a:=by repeat' first | exact trivial | refine And.intro (Or.inl rfl) ?_ | refine And.intro (Or.inr (And.intro rfl rfl)) ?_) :
    OpsK P T base ops none (⟨dst,.call c,ty,pos,af,g⟩::l) ⟨sl,hp,nx⟩ K:=
  Zx o p r t (a.take n) a b z x hc q (Y4 o [] [] o1 v b1) (Y4 p [] [] u y w) hb hold h
end
inductive WvR (st : AS) (ρ : Nat→Nat) (fz ph : List Nat) (nx : Nat) : List (List V)→List (List V)→Prop
  | nil : WvR st ρ fz ph nx [] []
  | cons {c d : List V} {cs ds : List (List V)} : WvC st ρ fz ph nx c d→WvR st ρ fz ph nx cs ds→WvR st ρ fz ph nx (c::cs) (d::ds)
theorem WvR.len {st : AS} {ρ : Nat→Nat} {fz ph : List Nat} {nx : Nat} {cs ds : List (List V)} (h : WvR st ρ fz ph nx cs ds) : cs.length = ds.length:=by
  induction h with
  | nil=>rfl
  | cons _ _ ih=>simp [ih]
theorem WvR.get {st : AS} {ρ : Nat→Nat} {fz ph : List Nat} {nx : Nat} {cs ds : List (List V)} (h : WvR st ρ fz ph nx cs ds) : ∀ (j : Nat) (c d : List V),cs[j]? = some c→ds[j]? = some d→WvC st ρ fz ph nx c d:=by
  induction h with
  | nil=>intro i x y h;simp at h
  | cons h1 _ ih=>
    intro i x y b a
    cases i with
    | zero=>simp at b a;subst b;subst a;exact h1
    | succ i=>exact ih i x y (by simpa using b) (by simpa using a)
theorem q172 {st : AS} {ρ : Nat→Nat} {fz ph : List Nat} {nx es : Nat} {cs ds : List (List V)} (h : WvR st ρ fz ph nx cs ds) : Wb st ρ fz ph nx (.cel es cs) (.cel es ds):=
  .cel h.len fun i x y b a=>⟨(h.get i x y b a).len,(h.get i x y b a).get⟩
theorem q173 {st : AS} {ρ : Nat→Nat} {fz ph : List Nat} {nx es : Nat} {cs : List (List DV)} {ds : List (List V)} (h : WvR st ρ fz ph nx (cs.map (·.map .d)) ds) : Wb st ρ fz ph nx (.dat es cs) (.cel es ds):=by
  refine .datcel (by simpa using h.len) fun i x y f b=>?_;have a:=h.get i (x.map .d) y (by simp [f]) b;refine ⟨by simpa using a.len,fun j c d g hd=>a.get j (.d c) d (by simp [g]) hd⟩
theorem wkA {base : Nat} {st st' : AS} (l : List (Nat × Nat)) (fz ph : List Nat) (a : wkOk base l fz ph st'.hp st'.nx = true:=by exact rfl)
    (hs : WkL st (rho l) fz ph st'.nx st'.sl:=by
      repeat' first | exact trivial | refine And.intro (Exists.intro _ (And.intro rfl ?_)) ?_ | exact Wv.d (DLe.refl _) | exact Wv.ref rfl qy (ltd rfl) | exact Wv.mp rfl qy (ltd rfl) | exact Wv.hs rfl qy (ltd rfl) | exact Wv.d (DLe.nil _) | exact Wv.nil qy (ltd rfl) | exact qj2 rfl rfl qy | refine qfi ?_ | refine q17a ?_ | refine qj4 ?_ | refine q17b ?_ | refine q13 ?_ | refine WvL.cons ?_ ?_ | exact WvL.nil | exact Wv.dref _ _ | exact Wv.yld rfl qy (ltd rfl))
    (b : WkH st (rho l) fz ph st'.nx st'.hp:=by
      repeat' first | exact trivial | refine And.intro (And.intro (ltd rfl) (Or.inr (And.intro qy (Exists.intro _ (And.intro rfl ?_))))) ?_ | refine And.intro (And.intro (ltd rfl) (Or.inl (And.intro qy (Exists.intro _ (And.intro qy rfl))))) ?_ | exact Wb.dat _ _ | exact Wb.mp _ | refine Zl ?_ | refine qj0 ?_ | refine q172 ?_ | refine q173 ?_ | refine WvR.cons ?_ ?_ | exact WvR.nil | refine qqe ?_ | refine WvS.cons rfl ?_ ?_ | exact WvS.nil | refine WvC.cons ?_ rfl ?_ | exact WvC.nil | exact Wv.d (DLe.refl _) | exact Wv.ref rfl qy (ltd rfl) | exact Wv.mp rfl qy (ltd rfl) | exact Wv.hs rfl qy (ltd rfl) | exact Wv.d (DLe.nil _) | exact Wv.nil qy (ltd rfl) | exact qj2 rfl rfl qy | refine q13 ?_ | refine qfi ?_ | refine WvL.cons ?_ ?_ | exact WvL.nil | exact Wv.yld rfl qy (ltd rfl)) : WkE base st st':=wkE l fz ph a hs b
theorem qi {st : AS} {ρ : Nat→Nat} {fz ph : List Nat} {nx t : Nat} {x : DV} (h : st.get t = some (.d x)) : ∃ v,st.get t = some v∧Wv st ρ fz ph nx v (.d x):=⟨_,h,.d (.refl _)⟩
theorem Qf {st : AS} {ρ : Nat→Nat} {fz ph : List Nat} {nx n es : Nat} {xs : List (List DV)} (c : Nat.blt n nx = true) (d : st.blk (ρ n) = some (.dat es xs)) (a : n ∉ ph:=by decide) :
    n < nx∧((n∈ph∧∃ e,e≠0∧(Blk.dat es xs) = .dat e [])∨(n ∉ ph∧∃ b,st.blk (ρ n) = some b∧Wb st ρ fz ph nx b (.dat es xs))):=⟨ltd c,.inr ⟨a,_,d,.dat _ _⟩⟩
abbrev q0 : Option (List Nat) × List Nat:=(some [],[])
abbrev qq (n : Nat) : Option (List Nat) × List Nat:=(some [n],[])
abbrev Qo (n : Nat) : Option (List Nat) × List Nat:=(some [n],[n])
end Go.Am
namespace Go.Am
open Go
inductive DLeR : List (List DV)→List (List DV)→Prop
  | nil : DLeR [] []
  | cons {x y : List DV} {xs ys : List (List DV)} : DLeL x y→DLeR xs ys→DLeR (x::xs) (y::ys)
section
variable {P : Program} {T : Tab} {base : Nat} {ops : Array Oper} {dr : Dr} {l : List Oper} {sl : List (Nat × V)} {hp : List (Nat × Blk)} {nx : Nat} {K : AS→Prop} {ty : TypeId} {pos : String} {af : Array Edge} {t : Tmp} {g : Option (Nat × Bool)}
end
end Go.Am
