/- Lf2 Lf3 Lf4 Lf5 Lf6 -/
import Derived.Test.YtiejlbckgihckaaGreatK6
namespace Go.Am
open Go
theorem q127 {k : IntKind} {d : DV} (h : Ty (.int k) d) : ∃ n : Int,d = .int k n∧(Lit.int k n).wf = true:=by
  cases h with | int hw=>exact ⟨_,rfl,hw⟩
def q4p (l : List CT) (x : List DV) : Prop:=x.length = l.length∧∀ (j : Nat) (c : CT) (d : DV),l[j]? = some c→x[j]? = some d→Ty c d
theorem q123 {x : List DV} (h : q4p [] x) : x = []:=List.length_eq_zero_iff.1 h.1
theorem q122 {c : CT} {l : List CT} {x : List DV} (h : q4p (c::l) x) : ∃ d r,x = d::r∧Ty c d∧q4p l r:=by
  obtain ⟨a,b⟩:=h
  cases x with
  | nil=>simp at a
  | cons d r=>exact ⟨d,r,rfl,b 0 c d rfl rfl,by simpa using a,fun j k f g hd=>b (j + 1) k f (by simpa using g) (by simpa using hd)⟩
theorem q128 {α : Type} {l : List CT} {enc : α→List DV} {wf : α→Prop} (row : ∀ x,q4p l x→∃ a,x = enc a∧wf a) {d : DV} (h : Ty (.sl l) d) : ∃ xs : List α,DLe d (.sl l.length (xs.map enc))∧(∀ x∈xs,wf x)∧xs.length≤maxLen:=by
  cases h with
  | nil=>exact ⟨[],.nil _,qe,qe⟩
  | @sl _ xs hl h1 h2=>
    have key : ∀ ys : List (List DV),(∀ y∈ys,q4p l y)→∃ zs : List α,ys = zs.map enc∧∀ z∈zs,wf z:=by
      intro ys
      induction ys with
      | nil=>intro _;exact ⟨[],rfl,qe⟩
      | cons y ys ih=>
        intro f;obtain ⟨a,rfl,g⟩:=row y (f y qe);obtain ⟨zs,rfl,b⟩:=ih fun z b=>f z (by simp [b]);exact ⟨a::zs,rfl,by simpa using ⟨g,b⟩⟩
    obtain ⟨zs,rfl,b⟩:=key xs fun y f=>by
      obtain ⟨i,hi⟩:=List.getElem?_of_mem f;exact ⟨h1 i y hi,fun j c d k hd=>h2 i y j c d hi k hd⟩
    exact ⟨zs,.refl _,b,by simpa using hl⟩
theorem q12a {n : Int} (h : (Lit.int .i64 n).wf = true) : -9223372036854775808≤n∧n≤9223372036854775807:=by
  simp [Lit.wf,IntKind.min,IntKind.max,IntKind.signed,IntKind.bits] at h;omega
theorem q11x {xs : List DV} (h : Jp [] xs) : xs = []:=by cases h;rfl
theorem q11y {c : CT} {a : List (Bool × List CT)} {xs : List DV} (h : Jp ((false,[c])::a) xs) : ∃ d r,xs = d::r∧Ty c d∧Jp a r:=by
  cases h with | one h1 h2=>exact ⟨_,_,rfl,h1,h2⟩
theorem q11w {l : List CT} {a : List (Bool × List CT)} {xs : List DV} (h : Jp ((true,l)::a) xs) : ∃ x r,xs = .agg x::r∧q4p l x∧Jp a r:=by
  cases h with | agg h1 h2 h3=>exact ⟨_,_,rfl,⟨h1,h2⟩,h3⟩
end Go.Am
namespace Go.Am
open Go
theorem RunK.toEv {P : Program} {T : Tab} {base : Nat} {c : Code} {st : AS} {K : Ex→AS→Prop} (h : RunK P T base [c] st K) : ∃ ex st',Ku P T base c st ex st'∧K ex st':=q4s h
section
variable {P : Program} {T : Tab} {base : Nat} {ops : Array Oper} {l : List Oper} {sl : List (Nat × V)} {hp : List (Nat × Blk)} {nx : Nat} {K : AS→Prop} {ty : TypeId} {pos : String} {af : Array Edge} {dst : Option Tmp} {g : Option (Nat × Bool)}
theorem q1j {β : Type} {c : Call} {f : FuncId} {fn : Func} {d : Code} (j : List V) (E : β→Prop) (S : β→AS) (p : Qr ops ⟨sl,hp,nx⟩ ⟨dst,.call c,ty,pos,af,g⟩ = some true) (y : callee ⟨sl,hp,nx⟩ c = some (f,j))
    (x : P.funcs[f]? = some fn) (hb : fn.body = some d) (a : (fn.name == "runtime.NumGoroutine") = false) (m : codeOk fn.ntmps d = true) (s : Nat.ble j.length fn.ntmps = true)
    (h : RunK P T nx [d] ⟨Y8 0 j,hp,nx⟩ (fun ex st'=>(ex = .nor∨ex = .ret)∧∃ v,resV T st' fn.results.toList = some v∧∃ b,E b∧WkE base ((⟨sl,st'.hp,st'.nx⟩ : AS).putD dst v) (S b)))
    (q : ∀ b,E b→OpsK P T base ops none l (S b) K) : OpsK P T base ops none (⟨dst,.call c,ty,pos,af,g⟩::l) ⟨sl,hp,nx⟩ K:=by
  obtain ⟨ex,st',e,o,v,u,b,k,r⟩:=h.toEv;obtain ⟨st2,n,t⟩:=q b k;obtain ⟨ρ,fz,ph,w⟩:=r;exact ⟨st2,.callS p rfl y (.mk x hb a m (by simpa using s) e o u) (.wk w n),t⟩
theorem q3s {β : Type} {c : Call} {gf : Operand} {n : Nat} {r : List V} {s : List (Nat × V)} {f : List Tmp} {assign body A B : Code} (E : β→Prop) (S : β→AS) (hA : assign = A) (hB : body = B) (hg : Qr ops ⟨sl,hp,nx⟩ ⟨dst,.call c,ty,pos,af,g⟩ = some true)
    (j : c.callee = .value gf) (x : AS.ev ⟨sl,hp,nx⟩ gf = some (.yld n)) (q : evL (AS.ev ⟨sl,hp,nx⟩) c.args.toList = some r) (hb : find hp n = some (.loop s f A B .ready none)) (hl : f.length = r.length)
    (h : RunK P T nx [assign] ⟨q1m s f r,hp,nx⟩ (fun ex st1=>ex = .nor∧∃ z,find st1.hp n = some (.loop z f A B .ready none)∧
      RunK P T nx [body] (st1.setBlk n (.loop z f A B .busy none)) (fun ex st2=>∃ m,find st2.hp n = some (.loop m f A B .busy none)∧match ex with
        | .nor=>∃ b,E b∧WkE base ((⟨sl,repl st2.hp n (.loop m f A B .ready none),st2.nx⟩ : AS).putD dst (.d (.bool true))) (S b)
        | ex=>OpsK P T base ops none l ((⟨sl,repl st2.hp n (.loop m f A B .done ex.code),st2.nx⟩ : AS).putD dst (.d (.bool false))) K)))
    (hr : ∀ b,E b→OpsK P T base ops none l (S b) K) : OpsK P T base ops none (⟨dst,.call c,ty,pos,af,g⟩::l) ⟨sl,hp,nx⟩ K:=by
  subst hA hB;obtain ⟨ai,st1,e1,rfl,z,v,k⟩:=h.toEv;obtain ⟨ex,st2,e2,m,y,u⟩:=k.toEv
  have key : ∀ a,Kr P T base ops none l ((⟨sl,repl st2.hp n (.loop m f assign body (if ex = .nor then .ready else .done) ex.code),st2.nx⟩ : AS).putD dst (.d (.bool (decide (ex = .nor))))) a→Kr P T base ops none (⟨dst,.call c,ty,pos,af,g⟩::l) ⟨sl,hp,nx⟩ a:=
    fun a h3=>.callY hg rfl j x q hb hl e1 v e2 y h3
  cases ex with
  | nor=>
    obtain ⟨b,t,ρ,fz,ph,w⟩:=u;obtain ⟨a,p,o⟩:=hr b t;exact ⟨a,key a (.wk w p),o⟩
  | exit i=>
    obtain ⟨a,p,o⟩:=u;exact ⟨a,key a p,o⟩
  | ret=>
    obtain ⟨a,p,o⟩:=u;exact ⟨a,key a p,o⟩
end
section
variable {P : Program} {T : Tab} {base : Nat} {cs : List Code} {sl : List (Nat × V)} {hp : List (Nat × Blk)} {nx : Nat} {K : Ex→AS→Prop}
def qcx (P : Program) (T : Tab) (base : Nat) (cs : List Code) (K : Ex→AS→Prop) : Ex→AS→Prop:=qa6 (fun st'=>RunK P T base cs st' K) K
theorem q3z {m : Operand} {l : Array Tmp} {assign body : Code} {f : FuncId} {fn : Func} {j : Code} (a : List V)
    (o : AS.ev ⟨sl,hp,nx⟩ m = some (.fn f a)∨∃ ds,AS.ev ⟨sl,hp,nx⟩ m = some (.d (.fn f ds))∧a = ds.map .d)
    (w : P.funcs[f]? = some fn) (hb : fn.body = some j) (c : (fn.name == "runtime.NumGoroutine") = false) (n : codeOk fn.ntmps j = true) (u : Nat.ble (a.length + 1) fn.ntmps = true)
    (h : ∀ A B,assign = A→body = B→RunK P T (nx + 1) [j] ⟨Y8 0 (.yld nx::a),(nx,.loop sl l.toList A B .ready none)::hp,nx + 1⟩ (fun g b=>(g = .nor∨g = .ret)∧∃ v,resV T b fn.results.toList = some v∧
      ∃ (s : List (Nat × V)) (k : LoopState) (ex : Ex),find b.hp nx = some (.loop s l.toList A B k ex.code)∧k≠.busy∧qcx P T base cs K ex ⟨sl,repl b.hp nx .dead,b.nx⟩)) :
    RunK P T base (.rangeFunc m l assign body::cs) ⟨sl,hp,nx⟩ K:=by
  obtain ⟨g,b,e,p,v,x,s,k,ex,q,t,r⟩:=(h assign body rfl rfl).toEv;exact ⟨ex,_,.rangeF (pe:=ex.code) o (.mk w hb c n (by simpa using u) e p x) q t rfl,r⟩
theorem q35 {st : AS} (h : RunK P T base cs st K) : qcx P T base cs K .nor st:=h
theorem qcy {st : AS} (h : K .ret st) : qcx P T base cs K .ret st:=h
end
inductive WvS (st : AS) (ρ : Nat→Nat) (fz ph : List Nat) (nx : Nat) : List (Nat × V)→List (Nat × V)→Prop
  | nil {s : List (Nat × V)} : WvS st ρ fz ph nx s []
  | cons {s s' : List (Nat × V)} {t : Nat} {v v' : V} : find s t = some v→Wv st ρ fz ph nx v v'→WvS st ρ fz ph nx s s'→WvS st ρ fz ph nx s ((t,v')::s')
theorem qn1 {st : AS} {ρ : Nat→Nat} {fz ph : List Nat} {nx : Nat} {s b : List (Nat × V)} {f : List Tmp} {as d : Code} {c : LoopState} {pe : Option Code} (h : WvS st ρ fz ph nx s b) : Wb st ρ fz ph nx (.loop s f as d c pe) (.loop b f as d c pe):=by
  refine .loop fun t g a=>?_
  induction h with
  | nil=>simp [find] at a
  | @cons b t' v v'' h1 h2 _ ih=>
    simp only [find] at a
    cases hb : Nat.beq t' t with
    | true=>rw [hb] at a;cases a;obtain rfl:=Nat.eq_of_beq_eq_true hb;exact ⟨v,h1,h2⟩
    | false=>rw [hb] at a;exact ih a
theorem qmn {α : Type} {enc : α→List DV} {es : Nat} (a : ∀ x,(enc x).length = es) {xs : List α} {k : Nat} {v : α} (h : xs[k]? = some v) : sub (xs.flatMap enc) (k * es) es = some (enc v):=by
  induction xs generalizing k with
  | nil=>simp at h
  | cons x xs ih=>
    cases k with
    | zero=>
      simp at h;subst h;have:=a x;simp [sub,List.flatMap_cons,this]
    | succ k=>
      have d : xs[k]? = some v:=by simpa using h
      have:=ih d;unfold sub at this ⊢;have b:=a x;have f : (k + 1) * es = (enc x).length + k * es:=by rw [Nat.succ_mul,b];omega
      rw [List.flatMap_cons,f];split at this
      · rename_i c;rw [qs (by rw [List.length_append];omega),← List.drop_drop,List.drop_left];exact this
      · cases this
theorem q10d {α : Type} {enc : α→List DV} {es : Nat} (a : ∀ x,(enc x).length = es) {xs : List α} {k : Nat} {v : α} (h : k < xs.length) : splice (xs.flatMap enc) (k * es) (enc v) = (xs.set k v).flatMap enc:=by
  induction xs generalizing k with
  | nil=>simp at h
  | cons x xs ih=>
    have b:=a x;have d:=a v
    cases k with
    | zero=>
      simp only [splice,Nat.zero_mul,List.take_zero,List.nil_append,Nat.zero_add,List.flatMap_cons,List.set_cons_zero];rw [d,← b,List.drop_left]
    | succ k=>
      have:=ih (k:=k) (by simpa using h);simp only [splice] at this ⊢;have c : (k + 1) * es = (enc x).length + k * es:=by rw [Nat.succ_mul,b];omega
      rw [List.flatMap_cons,List.set_cons_succ,List.flatMap_cons,c,← this];rw [List.take_length_add_append,show (enc x).length + k * es + (enc v).length = (enc x).length + (k * es + (enc v).length) by omega,← List.drop_drop,List.drop_left];simp [List.append_assoc]
theorem qq5 {α : Type} {enc : α→List DV} {es : Nat} (a : ∀ x,(enc x).length = es) (xs : List α) : (xs.flatMap enc).length = xs.length * es:=by
  induction xs with
  | nil=>simp
  | cons x xs ih=>rw [List.flatMap_cons,List.length_append,a,ih,List.length_cons,Nat.succ_mul];omega
def idxA {α : Type} (n : Nat) (xs : List α) (i : Int) : Option α:=if 0≤i∧i < n then xs[i.toNat]? else none
def andI (k : IntKind) (x y : Int) : Int:=k.wrap (BitVec.ofInt k.bits x &&& BitVec.ofInt k.bits y).toNat
def xorI (k : IntKind) (x y : Int) : Int:=k.wrap (BitVec.ofInt k.bits x ^^^ BitVec.ofInt k.bits y).toNat
def remK (x y : Int) : Option Int:=if y = 0 then none else some (x.tmod y)
section
variable {P : Program} {T : Tab} {base : Nat} {ops : Array Oper} {dr : Dr} {l : List Oper} {sl : List (Nat × V)} {hp : List (Nat × Blk)} {nx : Nat} {K : AS→Prop} {ty : TypeId} {pos : String} {af : Array Edge} {t : Tmp} {g : Option (Nat × Bool)}
theorem qsg {x y : Operand} {f j : TypeId} {a b r : Int} {k : IntKind} (c : remK a b = some r) (n : Qr ops ⟨sl,hp,nx⟩ ⟨some t,.binOp .rem f x y j,ty,pos,af,g⟩ = some true) (o : AS.ev ⟨sl,hp,nx⟩ x = some (.d (.int k a))) (p : AS.ev ⟨sl,hp,nx⟩ y = some (.d (.int k b)))
    (h : OpsK P T base ops dr l ⟨(t,.d (.int k r))::sl,hp,nx⟩ K) : OpsK P T base ops dr (⟨some t,.binOp .rem f x y j,ty,pos,af,g⟩::l) ⟨sl,hp,nx⟩ K:=by
  unfold remK at c;split at c
  · cases c
  · rename_i m;cases c;exact Ya n (v:=.d (.int k (a.tmod b))) (st1:=⟨sl,hp,nx⟩) (by simp [opFn,o,p,binD,binI,m]) h (Zv rfl)
theorem q10z {α β : Type} (f : α→β) (cs : List α) (j n : Nat) : sub (cs.map f) j n = (sub cs j n).map (·.map f):=by
  unfold sub;simp only [List.length_map];split
  · simp [List.map_take,List.map_drop]
  · rfl
theorem qb3 {α : Type} {n : Nat} {xs : List α} {i : Int} {v : α} (h : idxA n xs i = some v) : 0≤i∧i < n∧xs[i.toNat]? = some v:=by
  unfold idxA at h;split at h
  · rename_i a;exact ⟨a.1,a.2,h⟩
  · cases h
theorem qk8 {α : Type} {x y : Operand} {b : TypeId} {i : TI} {k : IntKind} {n : Int} {enc : α→List DV} {v : α} (xs : List α) (w : V) (s : idxA i.len xs n = some v) (a : ∀ x,(enc x).length = i.esize) (j : Qr ops ⟨sl,hp,nx⟩ ⟨some t,.index b x y,ty,pos,af,g⟩ = some true) (q : T b = some i)
    (f : AS.ev ⟨sl,hp,nx⟩ x = some (.d (.agg (xs.flatMap enc)))) (r : AS.ev ⟨sl,hp,nx⟩ y = some (.d (.int k n))) (u : i.kind = .array) (p : pack i.eagg ((enc v).map .d) = some w)
    (h : OpsK P T base ops dr l ⟨(t,w)::sl,hp,nx⟩ K) : OpsK P T base ops dr (⟨some t,.index b x y,ty,pos,af,g⟩::l) ⟨sl,hp,nx⟩ K:=by
  obtain ⟨c,m,o⟩:=qb3 s;refine Ya j (v:=w) (st1:=⟨sl,hp,nx⟩) ?_ h (Zv rfl);simp only [opFn,q,f,r,u,agD];rw [qs ⟨c,m⟩,q10z,qmn a o];simp only [Option.map_some,p]
theorem q2l {α : Type} {x y : Operand} {a : TypeId} {i : TI} {k : IntKind} {n : Int} {m es : Nat} {v : α} {xs : List α} (q : idxA i.len xs n = some v) (f : Qr ops ⟨sl,hp,nx⟩ ⟨some t,.indexAddr a x y,ty,pos,af,g⟩ = some true) (o : T a = some i)
    (c : AS.ev ⟨sl,hp,nx⟩ x = some (.ref m es 0 0)) (p : AS.ev ⟨sl,hp,nx⟩ y = some (.d (.int k n))) (r : i.kind = .array)
    (h : OpsK P T base ops dr l ⟨(t,.ref m es 0 (n.toNat * i.esize))::sl,hp,nx⟩ K) : OpsK P T base ops dr (⟨some t,.indexAddr a x y,ty,pos,af,g⟩::l) ⟨sl,hp,nx⟩ K:=by
  obtain ⟨b,j,_⟩:=qb3 q;exact Ya f (v:=.ref m es 0 (n.toNat * i.esize)) (st1:=⟨sl,hp,nx⟩) (by simp [opFn,c,p,o,q3o,r,b,j]) h (Zv rfl)
theorem q85 {α : Type} {p : Operand} {a : TypeId} {i : TI} {m es sz c : Nat} {n : Int} {xs : List α} {enc : α→List DV} {v : α} (w : V) (r : idxA c xs n = some v) (b : ∀ x,(enc x).length = sz) (j : Qr ops ⟨sl,hp,nx⟩ ⟨some t,.load a p,ty,pos,af,g⟩ = some true) (q : T a = some i)
    (f : AS.ev ⟨sl,hp,nx⟩ p = some (.ref m es 0 (n.toNat * sz))) (hb : find hp m = some (.dat es [xs.flatMap enc])) (hs : sz = i.size) (o : (Uu i.agg (enc v)).map .d = some w)
    (h : OpsK P T base ops dr l ⟨(t,w)::sl,hp,nx⟩ K) (k : okF dr l.length (fp ⟨sl,hp,nx⟩ (.load a p)) = true:=by rfl) : OpsK P T base ops dr (⟨some t,.load a p,ty,pos,af,g⟩::l) ⟨sl,hp,nx⟩ K:=
  qf4 j q f hb rfl (by rw [← hs];exact qmn b (qb3 r).2.2) o h k
theorem qf6 {α : Type} {p x : Operand} {k : TypeId} {i : TI} {m es sz r : Nat} {n : Int} {xs : List α} {enc : α→List DV} {v : α} (f : α) {u : V} (z : idxA r xs n = some v) (a : ∀ x,(enc x).length = sz) (s : Qr ops ⟨sl,hp,nx⟩ ⟨none,.store k p x,ty,pos,af,g⟩ = some true) (y : T k = some i)
    (hp' : AS.ev ⟨sl,hp,nx⟩ p = some (.ref m es 0 (n.toNat * sz))) (t : AS.ev ⟨sl,hp,nx⟩ x = some u) (hb : find hp m = some (.dat es [xs.flatMap enc])) (hs : sz = i.size) (q : cellsOf u = (enc f).map .d) (hk : (enc f).all Yl = true)
    (h : OpsK P T base ops dr l ⟨sl,repl hp m (.dat es [(xs.set n.toNat f).flatMap enc]),nx⟩ K) (w : okO dr l.length ⟨sl,hp,nx⟩ (.store k p x) ⟨sl,repl hp m (.dat es [(xs.set n.toNat f).flatMap enc]),nx⟩ = true:=by rfl) : OpsK P T base ops dr (⟨none,.store k p x,ty,pos,af,g⟩::l) ⟨sl,hp,nx⟩ K:=by
  have j:=Kh (qb3 z).2.2;refine Ya s (v:=.dead) (st1:=⟨sl,repl hp m (.dat es [(xs.set n.toNat f).flatMap enc]),nx⟩) ?_ h w;have c : (cellsOf u).all Kp = true:=by rw [q,List.all_map];exact hk
  have b : (cellsOf u).length = i.size:=by rw [q,List.length_map,a];exact hs
  have o : n.toNat * sz + i.size≤(xs.flatMap enc).length:=by
    rw [qq5 a,← hs,← Nat.succ_mul];exact Nat.mul_le_mul_right _ j
  simp only [opFn,y,hp',t,Jn,AS.blk,hb,Nat.beq_refl];rw [qx (by simp [c,b])];simp only [List.getElem?_cons_zero];rw [qs o,q,qcz];simp only [q10d a j,AS.setBlk,List.set_cons_zero];rfl
theorem qco {α : Type} {st : AS} {ρ : Nat→Nat} {fz ph : List Nat} {nx n es : Nat} {w : Nat × Nat} {ys : List α} {enc : α→List DV} (a : w.1 + w.2≤ys.length) (hb : st.blk n = some (.dat es (ys.map enc))) (b : n∈fz) : Wv st ρ fz ph nx (.hs n es w.1 w.2) (.d (.sl es (((ys.drop w.1).take w.2).map enc))):=
  .frz hb b (by simpa using a) (by rw [List.map_take,List.map_drop]) rfl
theorem qng {hp : List (Nat × Blk)} {a : List V} {ds C : List DV} (h : Kv hp a = some ds) : Kv hp (a ++ C.map .d) = some (ds ++ C):=by
  induction a generalizing ds with
  | nil=>
    simp [Kv] at h;subst h
    induction C with
    | nil=>rfl
    | cons c C ih=>
      simp only [List.nil_append,List.map_cons] at ih ⊢;simp only [Kv];rw [show toD hp 8 (.d c) = some c from rfl,ih]
  | cons v a ih=>
    simp only [Kv] at h;split at h <;> simp at h
    rename_i x l b f;subst h;simp only [List.cons_append,Kv,b,ih f]
theorem qq7 {a : List V} {C : List DV} : fpC (a ++ C.map .d) = fpC a:=by
  unfold fpC;have : (C.map V.d).all V.isD = true:=by rw [List.all_map];simp [V.isD]
  rw [List.all_append,this,Bool.and_true]
theorem Ym {c : Call} {f : FuncId} {C ds : List DV} {r : DV} (a : List V) (b : Pure P T f (ds ++ C) r) (j : Qr ops ⟨sl,hp,nx⟩ ⟨some t,.call c,ty,pos,af,g⟩ = some true) (m : callee ⟨sl,hp,nx⟩ c = some (f,a ++ C.map .d)) (hd : Kv hp a = some ds)
    (hs : (a.all V.isD = true∨r.scalar = true)) (h : OpsK P T base ops dr l ⟨(t,.d r)::sl,hp,nx⟩ K) (k : okF dr l.length (fpC a) = true:=by rfl) : OpsK P T base ops dr (⟨some t,.call c,ty,pos,af,g⟩::l) ⟨sl,hp,nx⟩ K:=by
  refine qk6 j rfl m (qng hd) ?_ b h (by rw [qq7];exact k);rcases hs with hs | hs
  · left;rw [List.all_append,hs,Bool.true_and,List.all_map];simp [V.isD]
  · exact .inr hs
end
end Go.Am
namespace Go.Am
open Go
theorem Yi {base : Nat} {st st' : AS} (l : List (Nat × Nat)) (fz ph : List Nat) (g : wkOk base l fz ph st'.hp st'.nx = true) (hs : WkL st (rho l) fz ph st'.nx st'.sl) (u : WkH st (rho l) fz ph st'.nx st'.hp) : Wk base (rho l) fz ph st st':=by
  simp only [wkOk,Bool.and_eq_true,Nat.ble_eq,List.all_eq_true] at g;obtain ⟨⟨⟨⟨p,s⟩,q⟩,r⟩,o⟩:=g;refine ⟨?_,?_,?_,?_,?_,p,?_,?_⟩
  · exact fun t y h=>hs.get (J5 h)
  · exact fun n x h=>u.get (J5 h)
  · intro n m b c a j d k v;have:=o _ (J5 a);simp only [Bool.or_eq_true,Bool.and_eq_true,q58,List.all_eq_true,Bool.not_eq_true'] at this;rcases this with h | h
    · exact absurd h d
    · have:=h.2 _ (J5 j);rcases this with (f | f) | f
      · exact absurd f k
      · rw [v] at f;simp at f
      · exact Nat.eq_of_beq_eq_true f
  · intro n b a d w;have:=o _ (J5 a);simp only [Bool.or_eq_true,Bool.and_eq_true,q58,Bool.not_eq_true'] at this;rcases this with h | h
    · exact absurd h d
    · rw [q58.2 w] at h;exact absurd h.1 qe
  · intro n a;unfold rho;split
    · rename_i m j;have:=s _ (J5 j);simp at this;omega
    · rfl
  · exact fun n a=>q n a
  · exact fun n a=>r n a
def q7g (l l3 : List (Nat × Nat)) (k k' nx nxN : Nat) : Bool:=
  (List.range k).all (fun i=>Nat.blt (rho l i) nx && Nat.beq (rho l3 (rho l i)) i) && (List.range nx).all (fun m=>(Nat.blt (rho l3 m) k && Nat.beq (rho l (rho l3 m)) m) || Nat.ble k' (rho l3 m)) && Nat.ble nx nxN
def OldL (l : List (Nat × Nat)) (k : Nat) (hp hpR : List (Nat × Blk)) : List (Nat × Blk)→Prop
  | []=>True
  | (m,b)::r=>(find hpR m = some b∨(find hp m = some b∧(List.range k).all (fun i=>!(Nat.beq (rho l i) m)) = true))∧OldL l k hp hpR r
theorem OldL.get {l : List (Nat × Nat)} {k : Nat} {hp a : List (Nat × Blk)} : ∀ {r : List (Nat × Blk)},OldL l k hp a r→∀ m b,(m,b)∈r→find a m = some b∨(find hp m = some b∧∀ i,i < k→rho l i≠m)
  | [],_,m,b,h=>by cases h
  | (m',b')::r,h,m,b,c=>by
    rcases List.mem_cons.1 c with e | c
    · cases e
      refine h.1.imp (fun x=>x) fun ⟨d,h2⟩=>⟨d,fun i hi e=>?_⟩
      have:=List.all_eq_true.1 h2 i (List.mem_range.2 hi)
      rw [e] at this;simp at this
    · exact OldL.get h.2 m b c
section
variable {P : Program} {T : Tab} {base : Nat} {ops : Array Oper} {l : List Oper} {sl : List (Nat × V)} {hp : List (Nat × Blk)} {nx : Nat} {K : AS→Prop} {ty : TypeId} {pos : String} {af : Array Edge} {dst : Option Tmp} {g : Option (Nat × Bool)}
theorem U1 {c : Call} {f : FuncId} {d : List V} {hp0 q : List (Nat × Blk)} {k v : Nat} {vR : V} (w y : List (Nat × Nat)) (s : List V) (x : V) (a p : List (Nat × Blk)) (j : Nat) (he : K9 P T f d hp0 k vR q v) (hg : Qr ops ⟨sl,hp,nx⟩ ⟨dst,.call c,ty,pos,af,g⟩ = some true) (hc : callee ⟨sl,hp,nx⟩ c = some (f,s)) (o : s.length = d.length)
    (u : Wk 0 (rho w) [] [] ⟨Y8 0 s,hp,nx⟩ ⟨Y8 0 d,hp0,k⟩) (r : Wk 0 (rho y) [] [] ⟨[(0,vR)],q,v⟩ ⟨[(0,x)],a,j⟩) (hb : q7g w y k v nx j = true) (hold : OldL w k hp a p)
    (h : OpsK P T base ops none l ((⟨sl,p,j⟩ : AS).putD dst x) K) : OpsK P T base ops none (⟨dst,.call c,ty,pos,af,g⟩::l) ⟨sl,hp,nx⟩ K:=by
  obtain ⟨st2,z,k2⟩:=h;refine ⟨st2,.callF hg rfl hc o u he r ⟨?_,?_,?_,?_,?_⟩ z,k2⟩
  · intro i hi;simp only [q7g,Bool.and_eq_true,List.all_eq_true,List.mem_range] at hb;have:=hb.1.1 i hi;exact ⟨by simpa [Nat.blt_eq] using this.1,Nat.eq_of_beq_eq_true this.2⟩
  · intro m t;simp only [q7g,Bool.and_eq_true,List.all_eq_true,List.mem_range,Bool.or_eq_true] at hb;rcases hb.1.2 m t with n | n
    · exact .inl ⟨by simpa [Nat.blt_eq] using n.1,Nat.eq_of_beq_eq_true n.2⟩
    · exact .inr (by simpa using n)
  · intro m t;cases t
  · exact fun m b n=>hold.get m b (J5 n)
  · simp only [q7g,Bool.and_eq_true] at hb;simpa using hb.2
end
theorem Kq {P : Program} {T : Tab} {f : FuncId} {fn : Func} {c : Code} {d : List V} {hp b : List (Nat × Blk)} {nx j : Nat} {vR : V} (m : P.funcs[f]? = some fn) (hb : fn.body = some c) (a : (fn.name == "runtime.NumGoroutine") = false) (g : codeOk fn.ntmps c = true) (l : Nat.ble d.length fn.ntmps = true)
    (h : RunK P T nx [c] ⟨Y8 0 d,hp,nx⟩ (fun ex st=>(ex = .nor∨ex = .ret)∧∃ v,resV T st fn.results.toList = some v∧WkE nx ⟨[(0,v)],st.hp,st.nx⟩ ⟨[(0,vR)],b,j⟩)) : K9 P T f d hp nx vR b j:=by
  obtain ⟨ex,st',e,k,v,n,ρ,fz,ph,w⟩:=q4s h;exact .wk (.mk m hb a g (by simpa using l) e k n) w
def shlK (k : IntKind) (x y : Int) : Option Int:=if y < 0 then none else some (k.wrap (x * 2 ^ (min y.toNat k.bits)))
section
variable {P : Program} {T : Tab} {base : Nat} {ops : Array Oper} {dr : Dr} {l : List Oper} {sl : List (Nat × V)} {hp : List (Nat × Blk)} {nx : Nat} {K : AS→Prop} {ty : TypeId} {pos : String} {af : Array Edge} {t : Tmp} {g : Option (Nat × Bool)}
theorem qsh {x y : Operand} {f j : TypeId} {a b r : Int} {k q : IntKind} (c : shlK k a b = some r) (n : Qr ops ⟨sl,hp,nx⟩ ⟨some t,.binOp .shl f x y j,ty,pos,af,g⟩ = some true) (o : AS.ev ⟨sl,hp,nx⟩ x = some (.d (.int k a))) (p : AS.ev ⟨sl,hp,nx⟩ y = some (.d (.int q b)))
    (h : OpsK P T base ops dr l ⟨(t,.d (.int k r))::sl,hp,nx⟩ K) : OpsK P T base ops dr (⟨some t,.binOp .shl f x y j,ty,pos,af,g⟩::l) ⟨sl,hp,nx⟩ K:=by
  unfold shlK at c;split at c
  · cases c
  · rename_i m;cases c;exact Ya n (v:=.d (.int k (k.wrap (a * 2 ^ (min b.toNat k.bits))))) (st1:=⟨sl,hp,nx⟩) (by simp [opFn,o,p,binD,q8m,m]) h (Zv rfl)
end
def Qu (n m : Nat) : Option Unit:=if n = m then some () else none
theorem Km {n m : Nat} {u : Unit} (h : Qu n m = some u) : n = m:=by
  unfold Qu at h;split at h
  · assumption
  · cases h
def q4o (s : ByteArray) (i : Int) : Option Int:=(if 0≤i then s[i.toNat]? else none).map fun b=>(b.toNat : Int)
theorem qsb {P : Program} {T : Tab} {base : Nat} {ops : Array Oper} {dr : Dr} {l : List Oper} {sl : List (Nat × V)} {hp : List (Nat × Blk)} {nx : Nat} {K : AS→Prop} {ty : TypeId} {pos : String} {af : Array Edge} {t : Tmp} {g : Option (Nat × Bool)} {x y : Operand} {a : TypeId} {i : TI} {k : IntKind} {n v : Int} (s : ByteArray) (c : q4o s n = some v) (f : Qr ops ⟨sl,hp,nx⟩ ⟨some t,.index a x y,ty,pos,af,g⟩ = some true) (m : T a = some i)
    (j : AS.ev ⟨sl,hp,nx⟩ x = some (.d (.str s))) (o : AS.ev ⟨sl,hp,nx⟩ y = some (.d (.int k n))) (p : i.kind = .str)
    (h : OpsK P T base ops dr l ⟨(t,.d (.int .u8 v))::sl,hp,nx⟩ K) : OpsK P T base ops dr (⟨some t,.index a x y,ty,pos,af,g⟩::l) ⟨sl,hp,nx⟩ K:=by
  unfold q4o at c;rw [Y3] at c;obtain ⟨b,hb,rfl⟩:=c;refine Ya f (v:=.d (.int .u8 b.toNat)) (st1:=⟨sl,hp,nx⟩) ?_ h (Zv rfl);simp only [opFn,m,j,o,p,hb,Option.map_some]
open Classical in
noncomputable def lim {α : Type} (f : Nat→Option α) : Option α:=if h : ∃ r n,f n = some r then some h.choose else none
theorem qek {α : Type} {f : Nat→Option α} {r : α} (h : lim f = some r) : ∃ n,f n = some r:=by
  unfold lim at h;split at h
  · rename_i a;cases h;exact a.choose_spec
  · cases h
theorem qre {α : Type} {f : Nat→Option α} {n : Nat} {r : α} (h : f n = some r) : ∃ a,lim f = some a:=by
  unfold lim;rw [dif_pos ⟨r,n,h⟩];exact ⟨_,rfl⟩
theorem Yp {P : Program} {T : Tab} {base : Nat} {c : Code} {cs : List Code} {st : AS} {K : Ex→AS→Prop} (h : RunK P T base (c::.loop c::cs) st K) : RunK P T base (.loop c::cs) st K:=by
  obtain ⟨ex,st1,a,d⟩:=h
  cases ex with
  | nor=>
    obtain ⟨b,st2,f,g⟩:=d;exact ⟨b,st2,.loopN a f,g⟩
  | exit i=>exact ⟨_,_,.loopX a qe,d⟩
  | ret=>exact ⟨_,_,.loopX a qe,d⟩
def idxW {α : Type} (xs : List α) (w : Nat × Nat) (k : Int) : Option α:=if 0≤k∧k < w.2 then xs[w.1 + k.toNat]? else none
theorem qed {α : Type} {xs : List α} {w : Nat × Nat} {k : Int} {v : α} (h : idxW xs w k = some v) : idx xs ((w.1 : Int) + k) = some v:=by
  unfold idxW at h;split at h
  · rename_i a;unfold idx;rw [qs q0];rw [show ((w.1 : Int) + k).toNat = w.1 + k.toNat by omega];exact h
  · cases h
def Ux (n : Nat) (w : Nat × Nat) : Option Unit:=if w.1 + w.2≤n then some () else none
theorem qcj {n : Nat} {w : Nat × Nat} {u : Unit} (h : Ux n w = some u) : w.1 + w.2≤n:=by
  unfold Ux at h;split at h
  · assumption
  · cases h
def clrw {α : Type} (xs : List α) (w : Nat × Nat) (z : α) : List α:=splice xs w.1 (List.replicate w.2 z)
theorem qh6 {α : Type} {xs : List α} {w : Nat × Nat} {z : α} (h : w.1 + w.2≤xs.length) : (clrw xs w z).length = xs.length:=by
  unfold clrw splice;simp;omega
section
variable {P : Program} {T : Tab} {base : Nat} {ops : Array Oper} {dr : Dr} {l : List Oper} {sl : List (Nat × V)} {hp : List (Nat × Blk)} {nx : Nat} {K : AS→Prop} {ty : TypeId} {pos : String} {af : Array Edge} {t : Tmp} {g : Option (Nat × Bool)}
theorem qf3 {α : Type} {x y : Operand} {a : TypeId} {i : TI} {k : IntKind} {n : Int} {m es : Nat} {xs : List α} {w : Nat × Nat} {v : α} (b : idxW xs w n = some v) (f : Qr ops ⟨sl,hp,nx⟩ ⟨some t,.indexAddr a x y,ty,pos,af,g⟩ = some true) (o : T a = some i)
    (j : AS.ev ⟨sl,hp,nx⟩ x = some (.hs m es w.1 w.2)) (p : AS.ev ⟨sl,hp,nx⟩ y = some (.d (.int k n))) (q : i.kind = .slice) (r : es = i.esize)
    (h : OpsK P T base ops dr l ⟨(t,.ref m es ((w.1 : Int) + n).toNat 0)::sl,hp,nx⟩ K) : OpsK P T base ops dr (⟨some t,.indexAddr a x y,ty,pos,af,g⟩::l) ⟨sl,hp,nx⟩ K:=by
  have c : 0≤n∧n < w.2:=by
    unfold idxW at b;split at b
    · assumption
    · cases b
  refine qs8 f o j p q r c.1 c.2 ?_;rw [show ((w.1 : Int) + n).toNat = w.1 + n.toNat by omega] at h;exact h
theorem qs7 {α : Type} {x : Operand} {a : TypeId} {i : TI} {n es : Nat} {xs : List α} {enc : α→List DV} (z : α) {w : Nat × Nat} (k : w.1 + w.2≤xs.length) (b : Qr ops ⟨sl,hp,nx⟩ ⟨none,.call {callee:=.builtin .clear,args:=#[x],argTypes:=#[a]},ty,pos,af,g⟩ = some true) (m : T a = some i)
    (f : AS.ev ⟨sl,hp,nx⟩ x = some (.hs n es w.1 w.2)) (hb : find hp n = some (.dat es (xs.map enc))) (o : i.kind = .slice) (p : i.esize = es) (j : i.ezero = enc z)
    (h : OpsK P T base ops dr l ⟨sl,repl hp n (.dat es ((clrw xs w z).map enc)),nx⟩ K) (c : okO dr l.length ⟨sl,hp,nx⟩ (.call {callee:=.builtin .clear,args:=#[x],argTypes:=#[a]}) ⟨sl,repl hp n (.dat es ((clrw xs w z).map enc)),nx⟩ = true:=by rfl) :
    OpsK P T base ops dr (⟨none,.call {callee:=.builtin .clear,args:=#[x],argTypes:=#[a]},ty,pos,af,g⟩::l) ⟨sl,hp,nx⟩ K:=by
  subst p;refine Ya b (v:=.d (.tup [])) (st1:=⟨sl,repl hp n (.dat i.esize ((clrw xs w z).map enc)),nx⟩) ?_ h c;simp only [opFn,evL,f,Y9];simp only [List.getElem?_toArray,List.getElem?_cons_zero,m];rw [qs ⟨o,by simp [J4]⟩];simp only [Jy,AS.blk,hb];rw [qs ⟨by simpa using k,trivial⟩,j];simp [clrw,splice,AS.setBlk]
end
def arr3 {α : Type} (xs : List α) : Option (α × α × α):=match xs with
  | [a0,a1,a2]=>some (a0,a1,a2)
  | _=>none
theorem qnm {α : Type} {xs : List α} {v : α × α × α} {enc : α→List DV} (h : arr3 xs = some v) : xs.flatMap enc = enc v.1 ++ (enc v.2.1 ++ (enc v.2.2)):=by
  unfold arr3 at h;split at h
  · cases h;simp
  · cases h
def arr8 {α : Type} (xs : List α) : Option (α × α × α × α × α × α × α × α):=match xs with
  | [a0,a1,a2,a3,a4,a5,a6,a7]=>some (a0,a1,a2,a3,a4,a5,a6,a7)
  | _=>none
theorem qnn {α : Type} {xs : List α} {v : α × α × α × α × α × α × α × α} {enc : α→List DV} (h : arr8 xs = some v) : xs.flatMap enc = enc v.1 ++ (enc v.2.1 ++ (enc v.2.2.1 ++ (enc v.2.2.2.1 ++ (enc v.2.2.2.2.1 ++ (enc v.2.2.2.2.2.1 ++ (enc v.2.2.2.2.2.2.1 ++ (enc v.2.2.2.2.2.2.2))))))):=by
  unfold arr8 at h;split at h
  · cases h;simp
  · cases h
section
variable {P : Program} {T : Tab} {base : Nat} {ops : Array Oper} {dr : Dr} {l : List Oper} {sl : List (Nat × V)} {hp : List (Nat × Blk)} {nx : Nat} {K : AS→Prop} {ty : TypeId} {pos : String} {af : Array Edge} {t : Tmp} {g : Option (Nat × Bool)}
theorem qk9 {α : Type} {p : Operand} {a : TypeId} {i : TI} {m es : Nat} {xs : List α} {enc : α→List DV} {cs : List DV} (w : V) (b : xs.flatMap enc = cs) (f : Qr ops ⟨sl,hp,nx⟩ ⟨some t,.load a p,ty,pos,af,g⟩ = some true) (n : T a = some i)
    (k : AS.ev ⟨sl,hp,nx⟩ p = some (.ref m es 0 0)) (hb : find hp m = some (.dat es [xs.flatMap enc])) (hs : i.size = cs.length) (c : (Uu i.agg cs).map .d = some w)
    (h : OpsK P T base ops dr l ⟨(t,w)::sl,hp,nx⟩ K) (j : okF dr l.length (fp ⟨sl,hp,nx⟩ (.load a p)) = true:=by rfl) : OpsK P T base ops dr (⟨some t,.load a p,ty,pos,af,g⟩::l) ⟨sl,hp,nx⟩ K:=by
  rw [b] at hb;exact qf4 f n k hb rfl (by rw [hs];exact q110) c h j
end
end Go.Am
namespace Go.Am
open Go
theorem J {α : Sort _} {a : α} : a = a:=rfl
abbrev qb (n : Int) : DV:=.int .i64 n
abbrev q7 (n : Int) : V:=.d (.int .i64 n)
abbrev Q3 (b : Bool) : V:=.d (.bool b)
section
variable {P : Program} {T : Tab} {base : Nat} {ops : Array Oper} {dr : Dr} {l : List Oper} {sl : List (Nat × V)} {hp : List (Nat × Blk)} {nx : Nat} {K : AS→Prop} {ty : TypeId} {pos : String} {af : Array Edge} {t : Tmp} {g : Option (Nat × Bool)} {v : V}
theorem U {x : Operand} (a : (Qr ops ⟨sl,hp,nx⟩ ⟨some t,.move x,ty,pos,af,g⟩,AS.ev ⟨sl,hp,nx⟩ x) = (some true,some v))
    (h : OpsK P T base ops dr l ⟨(t,v)::sl,hp,nx⟩ K) : OpsK P T base ops dr (⟨some t,.move x,ty,pos,af,g⟩::l) ⟨sl,hp,nx⟩ K:=qf5 (Prod.mk.inj a).1 (Prod.mk.inj a).2 h
theorem qa {x : Operand} (a : (Qr ops ⟨sl,hp,nx⟩ ⟨some t,.assign x,ty,pos,af,g⟩,AS.ev ⟨sl,hp,nx⟩ x) = (some true,some v))
    (h : OpsK P T base ops dr l ⟨(t,v)::sl,hp,nx⟩ K) : OpsK P T base ops dr (⟨some t,.assign x,ty,pos,af,g⟩::l) ⟨sl,hp,nx⟩ K:=qs6 (Prod.mk.inj a).1 (Prod.mk.inj a).2 h
theorem O {op : Op} (v : V) (a : (Qr ops ⟨sl,hp,nx⟩ ⟨some t,op,ty,pos,af,g⟩,opFn T ⟨sl,hp,nx⟩ op) = (some true,some (v,⟨sl,hp,nx⟩))) (h : OpsK P T base ops dr l ⟨(t,v)::sl,hp,nx⟩ K)
    (b : okO dr l.length ⟨sl,hp,nx⟩ (op) ⟨sl,hp,nx⟩ = true:=by rfl) : OpsK P T base ops dr (⟨some t,op,ty,pos,af,g⟩::l) ⟨sl,hp,nx⟩ K:=qsk v (Prod.mk.inj a).1 (Prod.mk.inj a).2 h b
theorem Q7 {op : Op} (n : Nat) (b : Blk) (a : (Qr ops ⟨sl,hp,nx⟩ ⟨none,op,ty,pos,af,g⟩,opFn T ⟨sl,hp,nx⟩ op) = (some true,some (.dead,⟨sl,repl hp n b,nx⟩))) (h : OpsK P T base ops dr l ⟨sl,repl hp n b,nx⟩ K) (c : okO dr l.length ⟨sl,hp,nx⟩ (op) ⟨sl,repl hp n b,nx⟩ = true:=by rfl) : OpsK P T base ops dr (⟨none,op,ty,pos,af,g⟩::l) ⟨sl,hp,nx⟩ K:=
  qsj n b (Prod.mk.inj a).1 (Prod.mk.inj a).2 h c
theorem Qq {op : Op} (v : V) (b : Blk) (a : (Qr ops ⟨sl,hp,nx⟩ ⟨some t,op,ty,pos,af,g⟩,opFn T ⟨sl,hp,nx⟩ op) = (some true,some (v,⟨sl,(nx,b)::hp,nx + 1⟩))) (h : OpsK P T base ops dr l ⟨(t,v)::sl,(nx,b)::hp,nx + 1⟩ K) (c : okO dr l.length ⟨sl,hp,nx⟩ (op) ⟨sl,(nx,b)::hp,nx + 1⟩ = true:=by rfl) : OpsK P T base ops dr (⟨some t,op,ty,pos,af,g⟩::l) ⟨sl,hp,nx⟩ K:=
  qse v b (Prod.mk.inj a).1 (Prod.mk.inj a).2 h c
theorem q5d {α : Type} {x : Operand} {a : TypeId} {i : TI} {es : Nat} {xs : List α} {enc : α→List DV} (n : Int) (k : (xs.length : Int) = n) (b : Qr ops ⟨sl,hp,nx⟩ ⟨some t,.call {callee:=.builtin .len,args:=#[x],argTypes:=#[a]},ty,pos,af,g⟩ = some true) (f : T a = some i) (j : i.kind = .slice) (c : AS.ev ⟨sl,hp,nx⟩ x = some (.d (.sl es (xs.map enc))))
    (h : OpsK P T base ops dr l ⟨(t,.d (.int .i64 n))::sl,hp,nx⟩ K) : OpsK P T base ops dr (⟨some t,.call {callee:=.builtin .len,args:=#[x],argTypes:=#[a]},ty,pos,af,g⟩::l) ⟨sl,hp,nx⟩ K:=by
  subst k;exact qka b f j c h
theorem K1 {α : Type} {x y : Operand} {a : TypeId} {i : TI} {k : IntKind} {n : Int} {es : Nat} {xs : List α} {enc : α→List DV} {v : α} (o : idx xs n = some v)
    (b : (Qr ops ⟨sl,hp,nx⟩ ⟨some t,.indexAddr a x y,ty,pos,af,g⟩,T a,AS.ev ⟨sl,hp,nx⟩ x,AS.ev ⟨sl,hp,nx⟩ y,i.kind,es) = (some true,some i,some (.d (.sl es (xs.map enc))),some (.d (.int k n)),.slice,i.esize))
    (h : OpsK P T base ops dr l ⟨(t,.dref (enc v) 0)::sl,hp,nx⟩ K) : OpsK P T base ops dr (⟨some t,.indexAddr a x y,ty,pos,af,g⟩::l) ⟨sl,hp,nx⟩ K:=by
  simp only [Prod.mk.injEq] at b;obtain ⟨c,m,f,p,j,q⟩:=b;exact qsa o c m f p j q h
theorem qy {α : Type} {x y : Operand} {a : TypeId} {i : TI} {k : IntKind} {n : Int} {m es len : Nat} {xs : List α} {v : α} (q : idx xs n = some v) (p : len = xs.length)
    (b : (Qr ops ⟨sl,hp,nx⟩ ⟨some t,.indexAddr a x y,ty,pos,af,g⟩,T a,AS.ev ⟨sl,hp,nx⟩ x,AS.ev ⟨sl,hp,nx⟩ y,i.kind,es) = (some true,some i,some (.hs m es 0 len),some (.d (.int k n)),.slice,i.esize))
    (h : OpsK P T base ops dr l ⟨(t,.ref m es n.toNat 0)::sl,hp,nx⟩ K) : OpsK P T base ops dr (⟨some t,.indexAddr a x y,ty,pos,af,g⟩::l) ⟨sl,hp,nx⟩ K:=by
  simp only [Prod.mk.injEq] at b;obtain ⟨c,o,f,r,j,s⟩:=b;exact qs9 q p c o f r j s h
theorem Qc {α : Type} {p : Operand} {a : TypeId} {i : TI} {m es j : Nat} {n : Int} {xs : List α} {enc : α→List DV} {r : List DV} {v : α} (w : V) (s : idx xs n = some v)
    (b : (Qr ops ⟨sl,hp,nx⟩ ⟨some t,.load a p,ty,pos,af,g⟩,T a,AS.ev ⟨sl,hp,nx⟩ p,find hp m,sub (enc v) j i.size,(Uu i.agg r).map V.d) = (some true,some i,some (.ref m es n.toNat j),some (.dat es (xs.map enc)),some r,some w))
    (h : OpsK P T base ops dr l ⟨(t,w)::sl,hp,nx⟩ K) (c : okF dr l.length (fp ⟨sl,hp,nx⟩ (.load a p)) = true:=by rfl) : OpsK P T base ops dr (⟨some t,.load a p,ty,pos,af,g⟩::l) ⟨sl,hp,nx⟩ K:=by
  simp only [Prod.mk.injEq] at b;obtain ⟨f,q,k,u,o,x⟩:=b;exact qsd w s f q k u o x h c
theorem Qz {α : Type} {x : Operand} {a : TypeId} {i : TI} {es : Nat} {xs : List α} {enc : α→List DV}
    (b : (Qr ops ⟨sl,hp,nx⟩ ⟨some t,.call {callee:=.builtin .len,args:=#[x],argTypes:=#[a]},ty,pos,af,g⟩,T a,i.kind,AS.ev ⟨sl,hp,nx⟩ x) = (some true,some i,.slice,some (.d (.sl es (xs.map enc)))))
    (h : OpsK P T base ops dr l ⟨(t,.d (.int .i64 (xs.length : Int)))::sl,hp,nx⟩ K) : OpsK P T base ops dr (⟨some t,.call {callee:=.builtin .len,args:=#[x],argTypes:=#[a]},ty,pos,af,g⟩::l) ⟨sl,hp,nx⟩ K:=by
  simp only [Prod.mk.injEq] at b;obtain ⟨c,k,j,f⟩:=b;exact qka c k j f h
theorem Qd {c : Call} {f : FuncId} {ds : List DV} {r : DV} {a : List V} (b : Pure P T f ds r) (j : (Qr ops ⟨sl,hp,nx⟩ ⟨some t,.call c,ty,pos,af,g⟩,callee ⟨sl,hp,nx⟩ c,Kv hp a,a.all V.isD) = (some true,some (f,a),some ds,true))
    (h : OpsK P T base ops dr l ⟨(t,.d r)::sl,hp,nx⟩ K) (k : okF dr l.length (fpC a) = true:=by rfl) : OpsK P T base ops dr (⟨some t,.call c,ty,pos,af,g⟩::l) ⟨sl,hp,nx⟩ K:=by
  simp only [Prod.mk.injEq] at j;obtain ⟨m,p,o,n⟩:=j;exact q3r a b m p o (.inl n) h k
theorem Q6 {st : AS} {c : List ResultVar} {r : DV} (v : V) (a : (resV T st c,toD st.hp 8 v) = (some v,some r)) : (Ex.ret = .nor∨Ex.ret = .ret)∧∃ v b,resV T st c = some v∧toD st.hp 8 v = some b∧DLe b r:=by
  simp only [Prod.mk.injEq] at a;exact ⟨.inr rfl,v,r,a.1,a.2,.refl _⟩
theorem qc {id : Nat} {ops : Array Oper} {b : Code} {cs : List Code} {st : AS} {K : Ex→AS→Prop} (h : OpsK P T base ops none ops.toList st (fun st'=>RunK P T base (b::cs) st' K)) : RunK P T base (.seq (.region id ops false) b::cs) st K:=qf (Q0 h)
theorem qu {a ops : Array Oper} {id : Nat} {b : Code} {cs : List Code} {st : AS} {K : Ex→AS→Prop} (h : OpsK P T base ops none ops.toList st (fun st'=>RunK P T base (b::cs) st' K)) : OpsK P T base a dr [] st (fun st'=>RunK P T base (.seq (.region id ops false) b::cs) st' K):=q9 (qf (Q0 h))
theorem qq {a : Array Oper} {cs : List Code} {st : AS} {K : Ex→AS→Prop} (h : K .ret st) : OpsK P T base a dr [] st (fun st'=>RunK P T base (.ret::cs) st' K):=q9 (q1l h)
theorem qz {a : Array Oper} {st : AS} {K : Ex→AS→Prop} (h : K .nor st) : OpsK P T base a dr [] st (fun st'=>RunK P T base [] st' K):=q9 (Qh h)
theorem Kc {dst : Option Tmp} {c : Call} {f : FuncId} {m : List V} {hp0 j : List (Nat × Blk)} {k s : Nat} {vR : V} (o p : List (Nat × Nat)) (r : List V) (t : V) (n : Nat) (a : List (Nat × Blk)) (b : Nat) (he : K9 P T f m hp0 k vR j s)
    (h : OpsK P T base ops none l ((⟨sl,a,b⟩ : AS).putD dst t) K)
    (u : Qr ops ⟨sl,hp,nx⟩ ⟨dst,.call c,ty,pos,af,g⟩ = some true:=by exact rfl) (hc : callee ⟨sl,hp,nx⟩ c = some (f,r):=by exact rfl) (q : r.length = m.length:=by exact rfl)
    (x : wkOk 0 o [] [] hp0 k = true:=by exact rfl)
    (y : WkL ⟨Y8 0 r,hp,nx⟩ (rho o) [] [] k (Y8 0 m):=by
      repeat' first | exact trivial | refine And.intro (Exists.intro _ (And.intro rfl ?_)) ?_ | exact Wv.d (DLe.refl _) | exact Wv.ref rfl qn (ltd rfl) | exact Wv.mp rfl qn (ltd rfl) | exact Wv.hs rfl qn (ltd rfl) | exact Wv.d (DLe.nil _) | refine qcn ?_ | refine qg8 ?_ | refine Uy ?_ | refine WvL.cons ?_ ?_ | exact WvL.nil | exact Wv.dref _ _ | exact Wv.yld rfl qn (ltd rfl))
    (b1 : WkH ⟨Y8 0 r,hp,nx⟩ (rho o) [] [] k hp0:=by
      repeat' first | exact trivial | refine And.intro (And.intro (ltd rfl) (Or.inr (And.intro qn (Exists.intro _ (And.intro rfl ?_))))) ?_ | exact Wb.dat _ _ | exact Wb.mp _ | refine Zl ?_ | refine qg4 ?_ | refine WvC.cons ?_ rfl ?_ | exact WvC.nil | exact Wv.d (DLe.refl _) | exact Wv.ref rfl qn (ltd rfl) | exact Wv.mp rfl qn (ltd rfl) | exact Wv.hs rfl qn (ltd rfl) | exact Wv.d (DLe.nil _))
    (w : wkOk 0 p [] [] (a.take n) b = true:=by exact rfl)
    (z : WkL ⟨[(0,vR)],j,s⟩ (rho p) [] [] b [(0,t)]:=by
      repeat' first | exact trivial | refine And.intro (Exists.intro _ (And.intro rfl ?_)) ?_ | exact Wv.d (DLe.refl _) | exact Wv.ref rfl qn (ltd rfl) | exact Wv.mp rfl qn (ltd rfl) | exact Wv.hs rfl qn (ltd rfl) | exact Wv.d (DLe.nil _) | refine qcn ?_ | refine qg8 ?_ | refine Uy ?_ | refine WvL.cons ?_ ?_ | exact WvL.nil | exact Wv.dref _ _ | exact Wv.yld rfl qn (ltd rfl))
    (v : WkH ⟨[(0,vR)],j,s⟩ (rho p) [] [] b (a.take n):=by
      repeat' first | exact trivial | refine And.intro (And.intro (ltd rfl) (Or.inr (And.intro qn (Exists.intro _ (And.intro rfl ?_))))) ?_ | exact Wb.dat _ _ | exact Wb.mp _ | refine Zl ?_ | refine qg4 ?_ | refine WvC.cons ?_ rfl ?_ | exact WvC.nil | exact Wv.d (DLe.refl _) | exact Wv.ref rfl qn (ltd rfl) | exact Wv.mp rfl qn (ltd rfl) | exact Wv.hs rfl qn (ltd rfl) | exact Wv.d (DLe.nil _))
    (hb : q7g o p k s nx b = true:=by exact rfl)
    (hold : OldL o k hp (a.take n) a:=by repeat' first | exact trivial | refine And.intro (Or.inl rfl) ?_ | refine And.intro (Or.inr (And.intro rfl rfl)) ?_) :
    OpsK P T base ops none (⟨dst,.call c,ty,pos,af,g⟩::l) ⟨sl,hp,nx⟩ K:=
  U1 o p r t (a.take n) a b he u hc q (Yi o [] [] x y b1) (Yi p [] [] w z v) hb hold h
end
inductive WvR (st : AS) (ρ : Nat→Nat) (fz ph : List Nat) (nx : Nat) : List (List V)→List (List V)→Prop
  | nil : WvR st ρ fz ph nx [] []
  | cons {c d : List V} {cs ds : List (List V)} : WvC st ρ fz ph nx c d→WvR st ρ fz ph nx cs ds→WvR st ρ fz ph nx (c::cs) (d::ds)
theorem WvR.len {st : AS} {ρ : Nat→Nat} {fz ph : List Nat} {nx : Nat} {cs ds : List (List V)} (h : WvR st ρ fz ph nx cs ds) : cs.length = ds.length:=by
  induction h with
  | nil=>rfl
  | cons _ _ ih=>simp [ih]
theorem WvR.get {st : AS} {ρ : Nat→Nat} {fz ph : List Nat} {nx : Nat} {cs ds : List (List V)} (h : WvR st ρ fz ph nx cs ds) : ∀ (j : Nat) (c d : List V),cs[j]? = some c→ds[j]? = some d→WvC st ρ fz ph nx c d:=by
  induction h with
  | nil=>intro i x y h;simp at h
  | cons h1 _ ih=>
    intro i x y a b
    cases i with
    | zero=>simp at a b;subst a;subst b;exact h1
    | succ i=>exact ih i x y (by simpa using a) (by simpa using b)
theorem q11g {st : AS} {ρ : Nat→Nat} {fz ph : List Nat} {nx es : Nat} {cs ds : List (List V)} (h : WvR st ρ fz ph nx cs ds) : Wb st ρ fz ph nx (.cel es cs) (.cel es ds):=
  .cel h.len fun i x y a b=>⟨(h.get i x y a b).len,(h.get i x y a b).get⟩
theorem q11h {st : AS} {ρ : Nat→Nat} {fz ph : List Nat} {nx es : Nat} {cs : List (List DV)} {ds : List (List V)} (h : WvR st ρ fz ph nx (cs.map (·.map .d)) ds) : Wb st ρ fz ph nx (.dat es cs) (.cel es ds):=by
  refine .datcel (by simpa using h.len) fun i x y b f=>?_;have a:=h.get i (x.map .d) y (by simp [b]) f;refine ⟨by simpa using a.len,fun j c d g hd=>a.get j (.d c) d (by simp [g]) hd⟩
theorem wkA {base : Nat} {st st' : AS} (l : List (Nat × Nat)) (fz ph : List Nat) (a : wkOk base l fz ph st'.hp st'.nx = true:=by exact rfl)
    (hs : WkL st (rho l) fz ph st'.nx st'.sl:=by
      repeat' first | exact trivial | refine And.intro (Exists.intro _ (And.intro rfl ?_)) ?_ | exact Wv.d (DLe.refl _) | exact Wv.ref rfl qn (ltd rfl) | exact Wv.mp rfl qn (ltd rfl) | exact Wv.hs rfl qn (ltd rfl) | exact Wv.d (DLe.nil _) | exact Wv.nil qn (ltd rfl) | exact qn4 rfl rfl qn | refine qcn ?_ | refine q11n ?_ | refine qg8 ?_ | refine q11o ?_ | refine Uy ?_ | refine WvL.cons ?_ ?_ | exact WvL.nil | exact Wv.dref _ _ | exact Wv.yld rfl qn (ltd rfl))
    (b : WkH st (rho l) fz ph st'.nx st'.hp:=by
      repeat' first | exact trivial | refine And.intro (And.intro (ltd rfl) (Or.inr (And.intro qn (Exists.intro _ (And.intro rfl ?_))))) ?_ | refine And.intro (And.intro (ltd rfl) (Or.inl (And.intro qn (Exists.intro _ (And.intro qn rfl))))) ?_ | exact Wb.dat _ _ | exact Wb.mp _ | refine Zl ?_ | refine qg4 ?_ | refine q11g ?_ | refine q11h ?_ | refine WvR.cons ?_ ?_ | exact WvR.nil | refine qn1 ?_ | refine WvS.cons rfl ?_ ?_ | exact WvS.nil | refine WvC.cons ?_ rfl ?_ | exact WvC.nil | exact Wv.d (DLe.refl _) | exact Wv.ref rfl qn (ltd rfl) | exact Wv.mp rfl qn (ltd rfl) | exact Wv.hs rfl qn (ltd rfl) | exact Wv.d (DLe.nil _) | exact Wv.nil qn (ltd rfl) | exact qn4 rfl rfl qn | refine Uy ?_ | refine qcn ?_ | refine WvL.cons ?_ ?_ | exact WvL.nil | exact Wv.yld rfl qn (ltd rfl)) : WkE base st st':=wkE l fz ph a hs b
theorem qp {st : AS} {ρ : Nat→Nat} {fz ph : List Nat} {nx t : Nat} {x : DV} (h : st.get t = some (.d x)) : ∃ v,st.get t = some v∧Wv st ρ fz ph nx v (.d x):=⟨_,h,.d (.refl _)⟩
theorem Qk {st : AS} {ρ : Nat→Nat} {fz ph : List Nat} {nx n es : Nat} {xs : List (List DV)} (a : Nat.blt n nx = true) (c : st.blk (ρ n) = some (.dat es xs)) (d : n ∉ ph:=by decide) :
    n < nx∧((n∈ph∧∃ e,e≠0∧(Blk.dat es xs) = .dat e [])∨(n ∉ ph∧∃ b,st.blk (ρ n) = some b∧Wb st ρ fz ph nx b (.dat es xs))):=⟨ltd a,.inr ⟨d,_,c,.dat _ _⟩⟩
abbrev q6 : Option (List Nat) × List Nat:=(some [],[])
abbrev qv (n : Nat) : Option (List Nat) × List Nat:=(some [n],[])
abbrev Qp (n : Nat) : Option (List Nat) × List Nat:=(some [n],[n])
end Go.Am
namespace Go.Am
open Go
inductive DLeR : List (List DV)→List (List DV)→Prop
  | nil : DLeR [] []
  | cons {x y : List DV} {xs ys : List (List DV)} : DLeL x y→DLeR xs ys→DLeR (x::xs) (y::ys)
structure q11t (ag : Bool) (ks : List (Option IntKind)) {α : Type} [DecidableEq α] (ek : α→DV) : Prop where
  agg : ∀ k,Zs (ek k) = ag
  len : ∀ k,(cellsD (ek k)).length = ks.length
  eq : ∀ a b,Kj ks (cellsD (ek a)) (cellsD (ek b)) = some (decide (a = b))
section
variable {α β : Type} [DecidableEq α]
variable {ag : Bool} {ks : List (Option IntKind)} {ek : α→DV} {ev : β→DV}
end
section
variable {P : Program} {T : Tab} {base : Nat} {ops : Array Oper} {dr : Dr} {l : List Oper} {sl : List (Nat × V)} {hp : List (Nat × Blk)} {nx : Nat} {K : AS→Prop} {ty : TypeId} {pos : String} {af : Array Edge} {t : Tmp} {g : Option (Nat × Bool)}
variable {α β : Type} [DecidableEq α] {ek : α→DV} {ev : β→DV} {mt : TypeId} {i : TI} {ks : List (Option IntKind)} {n : Nat} {es : List (α × β)}
end
end Go.Am
