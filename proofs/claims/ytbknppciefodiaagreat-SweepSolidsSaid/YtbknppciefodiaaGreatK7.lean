/- Lf3 Lf4 Lf5 Lf6 -/
import Derived.Test.YtbknppciefodiaaGreatK6
namespace Go.Am
open Go
theorem RunK.toEv {P : Program} {T : Tab} {base : Nat} {c : Code} {st : AS} {K : Ex→AS→Prop} (h : RunK P T base [c] st K) : ∃ ex st',Y3 P T base c st ex st'∧K ex st':=q55 h
section
variable {P : Program} {T : Tab} {base : Nat} {ops : Array Oper} {l : List Oper} {sl : List (Nat × V)} {hp : List (Nat × Blk)} {nx : Nat} {K : AS→Prop} {ty : TypeId} {pos : String} {af : Array Edge} {dst : Option Tmp} {g : Option (Nat × Bool)}
theorem q3p {β : Type} {c : Call} {f : FuncId} {fn : Func} {k : Code} (m : List V) (E : β→Prop) (S : β→AS) (t : Qx ops ⟨sl,hp,nx⟩ ⟨dst,.call c,ty,pos,af,g⟩ = some true) (r : callee ⟨sl,hp,nx⟩ c = some (f,m))
    (x : P.funcs[f]? = some fn) (hb : fn.body = some k) (a : (fn.name == "runtime.NumGoroutine") = false) (d : codeOk fn.ntmps k = true) (y : Nat.ble m.length fn.ntmps = true)
    (h : RunK P T nx [k] ⟨Y9 0 m,hp,nx⟩ (fun ex st'=>(ex = .nor∨ex = .ret)∧∃ v,resV T st' fn.results.toList = some v∧∃ b,E b∧WkE base ((⟨sl,st'.hp,st'.nx⟩ : AS).putD dst v) (S b)))
    (n : ∀ b,E b→OpsK P T base ops none l (S b) K) : OpsK P T base ops none (⟨dst,.call c,ty,pos,af,g⟩::l) ⟨sl,hp,nx⟩ K:=by
  obtain ⟨ex,st',e,u,v,s,b,j,p⟩:=h.toEv;obtain ⟨st2,o,q⟩:=n b j;obtain ⟨ρ,fz,ph,w⟩:=p;exact ⟨st2,.callS t rfl r (.mk x hb a d (by simpa using y) e u s) (.wk w o),q⟩
theorem q5q {β : Type} {c : Call} {gf : Operand} {n : Nat} {v : List V} {s : List (Nat × V)} {f : List Tmp} {assign body A B : Code} (E : β→Prop) (S : β→AS) (hA : assign = A) (hB : body = B) (hg : Qx ops ⟨sl,hp,nx⟩ ⟨dst,.call c,ty,pos,af,g⟩ = some true)
    (m : c.callee = .value gf) (y : AS.ev ⟨sl,hp,nx⟩ gf = some (.yld n)) (r : evL (AS.ev ⟨sl,hp,nx⟩) c.args.toList = some v) (hb : find hp n = some (.loop s f A B .ready none)) (hl : f.length = v.length)
    (h : RunK P T nx [assign] ⟨q1v s f v,hp,nx⟩ (fun ex st1=>ex = .nor∧∃ t,find st1.hp n = some (.loop t f A B .ready none)∧
      RunK P T nx [body] (st1.setBlk n (.loop t f A B .busy none)) (fun ex st2=>∃ p,find st2.hp n = some (.loop p f A B .busy none)∧match ex with
        | .nor=>∃ b,E b∧WkE base ((⟨sl,repl st2.hp n (.loop p f A B .ready none),st2.nx⟩ : AS).putD dst (.d (.bool true))) (S b)
        | ex=>OpsK P T base ops none l ((⟨sl,repl st2.hp n (.loop p f A B .done ex.code),st2.nx⟩ : AS).putD dst (.d (.bool false))) K)))
    (hr : ∀ b,E b→OpsK P T base ops none l (S b) K) : OpsK P T base ops none (⟨dst,.call c,ty,pos,af,g⟩::l) ⟨sl,hp,nx⟩ K:=by
  subst hA hB;obtain ⟨ae,st1,e1,rfl,t,x,o⟩:=h.toEv;obtain ⟨ex,st2,e2,p,q,u⟩:=o.toEv
  have key : ∀ a,Ks P T base ops none l ((⟨sl,repl st2.hp n (.loop p f assign body (if ex = .nor then .ready else .done) ex.code),st2.nx⟩ : AS).putD dst (.d (.bool (decide (ex = .nor))))) a→Ks P T base ops none (⟨dst,.call c,ty,pos,af,g⟩::l) ⟨sl,hp,nx⟩ a:=
    fun a h3=>.callY hg rfl m y r hb hl e1 x e2 q h3
  cases ex with
  | nor=>
    obtain ⟨b,z,ρ,fz,ph,w⟩:=u;obtain ⟨a,k,j⟩:=hr b z;exact ⟨a,key a (.wk w k),j⟩
  | exit i=>
    obtain ⟨a,k,j⟩:=u;exact ⟨a,key a k,j⟩
  | ret=>
    obtain ⟨a,k,j⟩:=u;exact ⟨a,key a k,j⟩
end
section
variable {P : Program} {T : Tab} {base : Nat} {cs : List Code} {sl : List (Nat × V)} {hp : List (Nat × Blk)} {nx : Nat} {K : Ex→AS→Prop}
def qed (P : Program) (T : Tab) (base : Nat) (cs : List Code) (K : Ex→AS→Prop) : Ex→AS→Prop:=qbh (fun st'=>RunK P T base cs st' K) K
theorem q6r {n : Operand} {k : Array Tmp} {assign body : Code} {f : FuncId} {fn : Func} {m : Code} (a : List V)
    (r : AS.ev ⟨sl,hp,nx⟩ n = some (.fn f a)∨∃ ds,AS.ev ⟨sl,hp,nx⟩ n = some (.d (.fn f ds))∧a = ds.map .d)
    (u : P.funcs[f]? = some fn) (hb : fn.body = some m) (c : (fn.name == "runtime.NumGoroutine") = false) (j : codeOk fn.ntmps m = true) (x : Nat.ble (a.length + 1) fn.ntmps = true)
    (h : ∀ A B,assign = A→body = B→RunK P T (nx + 1) [m] ⟨Y9 0 (.yld nx::a),(nx,.loop sl k.toList A B .ready none)::hp,nx + 1⟩ (fun g b=>(g = .nor∨g = .ret)∧∃ v,resV T b fn.results.toList = some v∧
      ∃ (s : List (Nat × V)) (l : LoopState) (ex : Ex),find b.hp nx = some (.loop s k.toList A B l ex.code)∧l≠.busy∧qed P T base cs K ex ⟨sl,repl b.hp nx .dead,b.nx⟩)) :
    RunK P T base (.rangeFunc n k assign body::cs) ⟨sl,hp,nx⟩ K:=by
  obtain ⟨g,b,e,t,v,q,s,l,ex,p,w,o⟩:=(h assign body rfl rfl).toEv;exact ⟨ex,_,.rangeF (pe:=ex.code) r (.mk u hb c j (by simpa using x) e t q) p w rfl,o⟩
theorem q51 {st : AS} (h : RunK P T base cs st K) : qed P T base cs K .nor st:=h
theorem qbt {st : AS} (h : K .ret st) : qed P T base cs K .ret st:=h
end
inductive WvS (st : AS) (ρ : Nat→Nat) (fz ph : List Nat) (nx : Nat) : List (Nat × V)→List (Nat × V)→Prop
  | nil {s : List (Nat × V)} : WvS st ρ fz ph nx s []
  | cons {s s' : List (Nat × V)} {t : Nat} {v v' : V} : find s t = some v→Wv st ρ fz ph nx v v'→WvS st ρ fz ph nx s s'→WvS st ρ fz ph nx s ((t,v')::s')
theorem q12x {st : AS} {ρ : Nat→Nat} {fz ph : List Nat} {nx : Nat} {s b : List (Nat × V)} {c : List Tmp} {as d : Code} {f : LoopState} {pe : Option Code} (h : WvS st ρ fz ph nx s b) : Wb st ρ fz ph nx (.loop s c as d f pe) (.loop b c as d f pe):=by
  refine .loop fun t g a=>?_
  induction h with
  | nil=>simp [find] at a
  | @cons b t' v v'' h1 h2 _ ih=>
    simp only [find] at a
    cases hb : Nat.beq t' t with
    | true=>rw [hb] at a;cases a;obtain rfl:=Nat.eq_of_beq_eq_true hb;exact ⟨v,h1,h2⟩
    | false=>rw [hb] at a;exact ih a
theorem qo3 {α : Type} {enc : α→List DV} {es : Nat} (a : ∀ x,(enc x).length = es) {xs : List α} {k : Nat} {v : α} (h : xs[k]? = some v) : sub (xs.flatMap enc) (k * es) es = some (enc v):=by
  induction xs generalizing k with
  | nil=>simp at h
  | cons x xs ih=>
    cases k with
    | zero=>
      simp at h;subst h;have:=a x;simp [sub,List.flatMap_cons,this]
    | succ k=>
      have d : xs[k]? = some v:=by simpa using h
      have:=ih d;unfold sub at this ⊢;have b:=a x;have c : (k + 1) * es = (enc x).length + k * es:=by rw [Nat.succ_mul,b];omega
      rw [List.flatMap_cons,c];split at this
      · rename_i f;rw [qq (by rw [List.length_append];omega),← List.drop_drop,List.drop_left];exact this
      · cases this
theorem q11p {α : Type} {enc : α→List DV} {es : Nat} (a : ∀ x,(enc x).length = es) {xs : List α} {k : Nat} {v : α} (h : k < xs.length) : splice (xs.flatMap enc) (k * es) (enc v) = (xs.set k v).flatMap enc:=by
  induction xs generalizing k with
  | nil=>simp at h
  | cons x xs ih=>
    have b:=a x;have c:=a v
    cases k with
    | zero=>
      simp only [splice,Nat.zero_mul,List.take_zero,List.nil_append,Nat.zero_add,List.flatMap_cons,List.set_cons_zero];rw [c,← b,List.drop_left]
    | succ k=>
      have:=ih (k:=k) (by simpa using h);simp only [splice] at this ⊢;have d : (k + 1) * es = (enc x).length + k * es:=by rw [Nat.succ_mul,b];omega
      rw [List.flatMap_cons,List.set_cons_succ,List.flatMap_cons,d,← this];rw [List.take_length_add_append,show (enc x).length + k * es + (enc v).length = (enc x).length + (k * es + (enc v).length) by omega,← List.drop_drop,List.drop_left];simp [List.append_assoc]
theorem qra {α : Type} {enc : α→List DV} {es : Nat} (a : ∀ x,(enc x).length = es) (xs : List α) : (xs.flatMap enc).length = xs.length * es:=by
  induction xs with
  | nil=>simp
  | cons x xs ih=>rw [List.flatMap_cons,List.length_append,a,ih,List.length_cons,Nat.succ_mul];omega
def idxA {α : Type} (n : Nat) (xs : List α) (i : Int) : Option α:=if 0≤i∧i < n then xs[i.toNat]? else none
def andI (k : IntKind) (x y : Int) : Int:=k.wrap (BitVec.ofInt k.bits x &&& BitVec.ofInt k.bits y).toNat
def xorI (k : IntKind) (x y : Int) : Int:=k.wrap (BitVec.ofInt k.bits x ^^^ BitVec.ofInt k.bits y).toNat
section
variable {P : Program} {T : Tab} {base : Nat} {ops : Array Oper} {dr : Dr} {l : List Oper} {sl : List (Nat × V)} {hp : List (Nat × Blk)} {nx : Nat} {K : AS→Prop} {ty : TypeId} {pos : String} {af : Array Edge} {t : Tmp} {g : Option (Nat × Bool)}
theorem q120 {α β : Type} (f : α→β) (cs : List α) (j n : Nat) : sub (cs.map f) j n = (sub cs j n).map (·.map f):=by
  unfold sub;simp only [List.length_map];split
  · simp [List.map_take,List.map_drop]
  · rfl
theorem qce {α : Type} {n : Nat} {xs : List α} {i : Int} {v : α} (h : idxA n xs i = some v) : 0≤i∧i < n∧xs[i.toNat]? = some v:=by
  unfold idxA at h;split at h
  · rename_i a;exact ⟨a.1,a.2,h⟩
  · cases h
theorem qte {α : Type} {x y : Operand} {b : TypeId} {i : TI} {k : IntKind} {n : Int} {enc : α→List DV} {v : α} (xs : List α) (w : V) (o : idxA i.len xs n = some v) (a : ∀ x,(enc x).length = i.esize) (p : Qx ops ⟨sl,hp,nx⟩ ⟨some t,.index b x y,ty,pos,af,g⟩ = some true) (m : T b = some i)
    (q : AS.ev ⟨sl,hp,nx⟩ x = some (.d (.agg (xs.flatMap enc)))) (r : AS.ev ⟨sl,hp,nx⟩ y = some (.d (.int k n))) (s : i.kind = .array) (f : pack i.eagg ((enc v).map .d) = some w)
    (h : OpsK P T base ops dr l ⟨(t,w)::sl,hp,nx⟩ K) : OpsK P T base ops dr (⟨some t,.index b x y,ty,pos,af,g⟩::l) ⟨sl,hp,nx⟩ K:=by
  obtain ⟨c,j,u⟩:=qce o;refine Ye p (v:=w) (st1:=⟨sl,hp,nx⟩) ?_ h (Jd rfl);simp only [opFn,m,q,r,s,agD];rw [qq ⟨c,j⟩,q120,qo3 a u];simp only [Option.map_some,f]
theorem qco {α : Type} {x y : Operand} {a : TypeId} {i : TI} {k : IntKind} {n : Int} {m es : Nat} {v : α} {xs : List α} (j : idxA i.len xs n = some v) (o : Qx ops ⟨sl,hp,nx⟩ ⟨some t,.indexAddr a x y,ty,pos,af,g⟩ = some true) (f : T a = some i)
    (p : AS.ev ⟨sl,hp,nx⟩ x = some (.ref m es 0 0)) (r : AS.ev ⟨sl,hp,nx⟩ y = some (.d (.int k n))) (q : i.kind = .array)
    (h : OpsK P T base ops dr l ⟨(t,.ref m es 0 (n.toNat * i.esize))::sl,hp,nx⟩ K) : OpsK P T base ops dr (⟨some t,.indexAddr a x y,ty,pos,af,g⟩::l) ⟨sl,hp,nx⟩ K:=by
  obtain ⟨b,c,_⟩:=qce j;exact Ye o (v:=.ref m es 0 (n.toNat * i.esize)) (st1:=⟨sl,hp,nx⟩) (by simp [opFn,p,r,f,q3m,q,b,c]) h (Jd rfl)
theorem qgg {α : Type} {p : Operand} {a : TypeId} {i : TI} {m es sz f : Nat} {n : Int} {xs : List α} {enc : α→List DV} {v : α} (w : V) (o : idxA f xs n = some v) (b : ∀ x,(enc x).length = sz) (q : Qx ops ⟨sl,hp,nx⟩ ⟨some t,.load a p,ty,pos,af,g⟩ = some true) (k : T a = some i)
    (r : AS.ev ⟨sl,hp,nx⟩ p = some (.ref m es 0 (n.toNat * sz))) (hb : find hp m = some (.dat es [xs.flatMap enc])) (hs : sz = i.size) (j : (q1s i.agg (enc v)).map .d = some w)
    (h : OpsK P T base ops dr l ⟨(t,w)::sl,hp,nx⟩ K) (c : okF dr l.length (fp ⟨sl,hp,nx⟩ (.load a p)) = true:=by rfl) : OpsK P T base ops dr (⟨some t,.load a p,ty,pos,af,g⟩::l) ⟨sl,hp,nx⟩ K:=
  qlg q k r hb rfl (by rw [← hs];exact qo3 b (qce o).2.2) j h c
theorem qtp {α : Type} {p x : Operand} {k : TypeId} {i : TI} {m es sz s : Nat} {n : Int} {xs : List α} {enc : α→List DV} {v : α} (b : α) {u : V} (w : idxA s xs n = some v) (a : ∀ x,(enc x).length = sz) (y : Qx ops ⟨sl,hp,nx⟩ ⟨none,.store k p x,ty,pos,af,g⟩ = some true) (t : T k = some i)
    (hp' : AS.ev ⟨sl,hp,nx⟩ p = some (.ref m es 0 (n.toNat * sz))) (z : AS.ev ⟨sl,hp,nx⟩ x = some u) (hb : find hp m = some (.dat es [xs.flatMap enc])) (hs : sz = i.size) (o : cellsOf u = (enc b).map .d) (hk : (enc b).all Yg = true)
    (h : OpsK P T base ops dr l ⟨sl,repl hp m (.dat es [(xs.set n.toNat b).flatMap enc]),nx⟩ K) (r : okO dr l.length ⟨sl,hp,nx⟩ (.store k p x) ⟨sl,repl hp m (.dat es [(xs.set n.toNat b).flatMap enc]),nx⟩ = true:=by rfl) : OpsK P T base ops dr (⟨none,.store k p x,ty,pos,af,g⟩::l) ⟨sl,hp,nx⟩ K:=by
  have f:=Kg (qce w).2.2;refine Ye y (v:=.dead) (st1:=⟨sl,repl hp m (.dat es [(xs.set n.toNat b).flatMap enc]),nx⟩) ?_ h r;have c : (cellsOf u).all Ko = true:=by rw [o,List.all_map];exact hk
  have j : (cellsOf u).length = i.size:=by rw [o,List.length_map,a];exact hs
  have q : n.toNat * sz + i.size≤(xs.flatMap enc).length:=by
    rw [qra a,← hs,← Nat.succ_mul];exact Nat.mul_le_mul_right _ f
  simp only [opFn,t,hp',z,Jj,AS.blk,hb,Nat.beq_refl];rw [qp (by simp [c,j])];simp only [List.getElem?_cons_zero];rw [qq q,o,qee];simp only [q11p a f,AS.setBlk,List.set_cons_zero];rfl
theorem qe4 {α : Type} {st : AS} {ρ : Nat→Nat} {fz ph : List Nat} {nx n es : Nat} {w : Nat × Nat} {ys : List α} {enc : α→List DV} (b : w.1 + w.2≤ys.length) (hb : st.blk n = some (.dat es (ys.map enc))) (a : n∈fz) : Wv st ρ fz ph nx (.hs n es w.1 w.2) (.d (.sl es (((ys.drop w.1).take w.2).map enc))):=
  .frz hb a (by simpa using b) (by rw [List.map_take,List.map_drop]) rfl
theorem qou {hp : List (Nat × Blk)} {a : List V} {ds C : List DV} (h : Ku hp a = some ds) : Ku hp (a ++ C.map .d) = some (ds ++ C):=by
  induction a generalizing ds with
  | nil=>
    simp [Ku] at h;subst h
    induction C with
    | nil=>rfl
    | cons c C ih=>
      simp only [List.nil_append,List.map_cons] at ih ⊢;simp only [Ku];rw [show toD hp 8 (.d c) = some c from rfl,ih]
  | cons v a ih=>
    simp only [Ku] at h;split at h <;> simp at h
    rename_i x l b f;subst h;simp only [List.cons_append,Ku,b,ih f]
theorem qrc {a : List V} {C : List DV} : fpC (a ++ C.map .d) = fpC a:=by
  unfold fpC;have : (C.map V.d).all V.isD = true:=by rw [List.all_map];simp [V.isD]
  rw [List.all_append,this,Bool.and_true]
theorem Yi {c : Call} {f : FuncId} {C ds : List DV} {r : DV} (a : List V) (b : Pure P T f (ds ++ C) r) (k : Qx ops ⟨sl,hp,nx⟩ ⟨some t,.call c,ty,pos,af,g⟩ = some true) (m : callee ⟨sl,hp,nx⟩ c = some (f,a ++ C.map .d)) (hd : Ku hp a = some ds)
    (hs : (a.all V.isD = true∨r.scalar = true)) (h : OpsK P T base ops dr l ⟨(t,.d r)::sl,hp,nx⟩ K) (j : okF dr l.length (fpC a) = true:=by rfl) : OpsK P T base ops dr (⟨some t,.call c,ty,pos,af,g⟩::l) ⟨sl,hp,nx⟩ K:=by
  refine qlf k rfl m (qou hd) ?_ b h (by rw [qrc];exact j);rcases hs with hs | hs
  · left;rw [List.all_append,hs,Bool.true_and,List.all_map];simp [V.isD]
  · exact .inr hs
end
end Go.Am
namespace Go.Am
open Go
theorem Yk {base : Nat} {st st' : AS} (l : List (Nat × Nat)) (fz ph : List Nat) (g : wkOk base l fz ph st'.hp st'.nx = true) (hs : WkL st (rho l) fz ph st'.nx st'.sl) (p : WkH st (rho l) fz ph st'.nx st'.hp) : Wk base (rho l) fz ph st st':=by
  simp only [wkOk,Bool.and_eq_true,Nat.ble_eq,List.all_eq_true] at g;obtain ⟨⟨⟨⟨v,w⟩,r⟩,s⟩,o⟩:=g;refine ⟨?_,?_,?_,?_,?_,v,?_,?_⟩
  · exact fun t x h=>hs.get (Zz h)
  · exact fun n y h=>p.get (Zz h)
  · intro n m b c a k d j q;have:=o _ (Zz a);simp only [Bool.or_eq_true,Bool.and_eq_true,q5l,List.all_eq_true,Bool.not_eq_true'] at this;rcases this with h | h
    · exact absurd h d
    · have:=h.2 _ (Zz k);rcases this with (f | f) | f
      · exact absurd f j
      · rw [q] at f;simp at f
      · exact Nat.eq_of_beq_eq_true f
  · intro n b a d u;have:=o _ (Zz a);simp only [Bool.or_eq_true,Bool.and_eq_true,q5l,Bool.not_eq_true'] at this;rcases this with h | h
    · exact absurd h d
    · rw [q5l.2 u] at h;exact absurd h.1 qf
  · intro n a;unfold rho;split
    · rename_i m k;have:=w _ (Zz k);simp at this;omega
    · rfl
  · exact fun n a=>r n a
  · exact fun n a=>s n a
def q8h (l l3 : List (Nat × Nat)) (k k' nx nxN : Nat) : Bool:=
  (List.range k).all (fun i=>Nat.blt (rho l i) nx && Nat.beq (rho l3 (rho l i)) i) && (List.range nx).all (fun m=>(Nat.blt (rho l3 m) k && Nat.beq (rho l (rho l3 m)) m) || Nat.ble k' (rho l3 m)) && Nat.ble nx nxN
def OldL (l : List (Nat × Nat)) (k : Nat) (hp hpR : List (Nat × Blk)) : List (Nat × Blk)→Prop
  | []=>True
  | (m,b)::r=>(find hpR m = some b∨(find hp m = some b∧(List.range k).all (fun i=>!(Nat.beq (rho l i) m)) = true))∧OldL l k hp hpR r
theorem OldL.get {l : List (Nat × Nat)} {k : Nat} {hp a : List (Nat × Blk)} : ∀ {r : List (Nat × Blk)},OldL l k hp a r→∀ m b,(m,b)∈r→find a m = some b∨(find hp m = some b∧∀ i,i < k→rho l i≠m)
  | [],_,m,b,h=>by cases h
  | (m',b')::r,h,m,b,c=>by
    rcases List.mem_cons.1 c with e | c
    · cases e
      refine h.1.imp (fun x=>x) fun ⟨d,h2⟩=>⟨d,fun i hi e=>?_⟩
      have:=List.all_eq_true.1 h2 i (List.mem_range.2 hi)
      rw [e] at this;simp at this
    · exact OldL.get h.2 m b c
section
variable {P : Program} {T : Tab} {base : Nat} {ops : Array Oper} {l : List Oper} {sl : List (Nat × V)} {hp : List (Nat × Blk)} {nx : Nat} {K : AS→Prop} {ty : TypeId} {pos : String} {af : Array Edge} {dst : Option Tmp} {g : Option (Nat × Bool)}
theorem Jz {c : Call} {f : FuncId} {d : List V} {hp0 p : List (Nat × Blk)} {k r : Nat} {vR : V} (s y : List (Nat × Nat)) (v : List V) (x : V) (a o : List (Nat × Blk)) (j : Nat) (z : K9 P T f d hp0 k vR p r) (hg : Qx ops ⟨sl,hp,nx⟩ ⟨dst,.call c,ty,pos,af,g⟩ = some true) (hc : callee ⟨sl,hp,nx⟩ c = some (f,v)) (q : v.length = d.length)
    (t : Wk 0 (rho s) [] [] ⟨Y9 0 v,hp,nx⟩ ⟨Y9 0 d,hp0,k⟩) (w : Wk 0 (rho y) [] [] ⟨[(0,vR)],p,r⟩ ⟨[(0,x)],a,j⟩) (hb : q8h s y k r nx j = true) (hold : OldL s k hp a o)
    (h : OpsK P T base ops none l ((⟨sl,o,j⟩ : AS).putD dst x) K) : OpsK P T base ops none (⟨dst,.call c,ty,pos,af,g⟩::l) ⟨sl,hp,nx⟩ K:=by
  obtain ⟨st2,e2,k2⟩:=h;refine ⟨st2,.callF hg rfl hc q t z w ⟨?_,?_,?_,?_,?_⟩ e2,k2⟩
  · intro i hi;simp only [q8h,Bool.and_eq_true,List.all_eq_true,List.mem_range] at hb;have:=hb.1.1 i hi;exact ⟨by simpa [Nat.blt_eq] using this.1,Nat.eq_of_beq_eq_true this.2⟩
  · intro m u;simp only [q8h,Bool.and_eq_true,List.all_eq_true,List.mem_range,Bool.or_eq_true] at hb;rcases hb.1.2 m u with n | n
    · exact .inl ⟨by simpa [Nat.blt_eq] using n.1,Nat.eq_of_beq_eq_true n.2⟩
    · exact .inr (by simpa using n)
  · intro m u;cases u
  · exact fun m b n=>hold.get m b (Zz n)
  · simp only [q8h,Bool.and_eq_true] at hb;simpa using hb.2
end
theorem Kv {P : Program} {T : Tab} {f : FuncId} {fn : Func} {c : Code} {g : List V} {hp b : List (Nat × Blk)} {nx j : Nat} {vR : V} (m : P.funcs[f]? = some fn) (hb : fn.body = some c) (a : (fn.name == "runtime.NumGoroutine") = false) (d : codeOk fn.ntmps c = true) (n : Nat.ble g.length fn.ntmps = true)
    (h : RunK P T nx [c] ⟨Y9 0 g,hp,nx⟩ (fun ex st=>(ex = .nor∨ex = .ret)∧∃ v,resV T st fn.results.toList = some v∧WkE nx ⟨[(0,v)],st.hp,st.nx⟩ ⟨[(0,vR)],b,j⟩)) : K9 P T f g hp nx vR b j:=by
  obtain ⟨ex,st',e,l,v,k,ρ,fz,ph,w⟩:=q55 h;exact .wk (.mk m hb a d (by simpa using n) e l k) w
def shlK (k : IntKind) (x y : Int) : Option Int:=if y < 0 then none else some (k.wrap (x * 2 ^ (min y.toNat k.bits)))
section
variable {P : Program} {T : Tab} {base : Nat} {ops : Array Oper} {dr : Dr} {l : List Oper} {sl : List (Nat × V)} {hp : List (Nat × Blk)} {nx : Nat} {K : AS→Prop} {ty : TypeId} {pos : String} {af : Array Edge} {t : Tmp} {g : Option (Nat × Bool)}
theorem qtn {x y : Operand} {f j : TypeId} {a b r : Int} {k p : IntKind} (c : shlK k a b = some r) (m : Qx ops ⟨sl,hp,nx⟩ ⟨some t,.binOp .shl f x y j,ty,pos,af,g⟩ = some true) (n : AS.ev ⟨sl,hp,nx⟩ x = some (.d (.int k a))) (q : AS.ev ⟨sl,hp,nx⟩ y = some (.d (.int p b)))
    (h : OpsK P T base ops dr l ⟨(t,.d (.int k r))::sl,hp,nx⟩ K) : OpsK P T base ops dr (⟨some t,.binOp .shl f x y j,ty,pos,af,g⟩::l) ⟨sl,hp,nx⟩ K:=by
  unfold shlK at c;split at c
  · cases c
  · rename_i o;cases c;exact Ye m (v:=.d (.int k (k.wrap (a * 2 ^ (min b.toNat k.bits))))) (st1:=⟨sl,hp,nx⟩) (by simp [opFn,n,q,binD,q9u,o]) h (Jd rfl)
end
def K3 (n m : Nat) : Option Unit:=if n = m then some () else none
theorem Kq {n m : Nat} {u : Unit} (h : K3 n m = some u) : n = m:=by
  unfold K3 at h;split at h
  · assumption
  · cases h
def q4u (s : ByteArray) (i : Int) : Option Int:=(if 0≤i then s[i.toNat]? else none).map fun b=>(b.toNat : Int)
theorem qtf {P : Program} {T : Tab} {base : Nat} {ops : Array Oper} {dr : Dr} {l : List Oper} {sl : List (Nat × V)} {hp : List (Nat × Blk)} {nx : Nat} {K : AS→Prop} {ty : TypeId} {pos : String} {af : Array Edge} {t : Tmp} {g : Option (Nat × Bool)} {x y : Operand} {c : TypeId} {i : TI} {k : IntKind} {n v : Int} (s : ByteArray) (a : q4u s n = some v) (j : Qx ops ⟨sl,hp,nx⟩ ⟨some t,.index c x y,ty,pos,af,g⟩ = some true) (f : T c = some i)
    (m : AS.ev ⟨sl,hp,nx⟩ x = some (.d (.str s))) (o : AS.ev ⟨sl,hp,nx⟩ y = some (.d (.int k n))) (p : i.kind = .str)
    (h : OpsK P T base ops dr l ⟨(t,.d (.int .u8 v))::sl,hp,nx⟩ K) : OpsK P T base ops dr (⟨some t,.index c x y,ty,pos,af,g⟩::l) ⟨sl,hp,nx⟩ K:=by
  unfold q4u at a;rw [Y7] at a;obtain ⟨b,hb,rfl⟩:=a;refine Ye j (v:=.d (.int .u8 b.toNat)) (st1:=⟨sl,hp,nx⟩) ?_ h (Jd rfl);simp only [opFn,f,m,o,p,hb,Option.map_some]
open Classical in
noncomputable def lim {α : Type} (f : Nat→Option α) : Option α:=if h : ∃ r n,f n = some r then some h.choose else none
theorem qfu {α : Type} {f : Nat→Option α} {r : α} (h : lim f = some r) : ∃ n,f n = some r:=by
  unfold lim at h;split at h
  · rename_i a;cases h;exact a.choose_spec
  · cases h
theorem qsg {α : Type} {f : Nat→Option α} {n : Nat} {r : α} (h : f n = some r) : ∃ a,lim f = some a:=by
  unfold lim;rw [dif_pos ⟨r,n,h⟩];exact ⟨_,rfl⟩
theorem Yp {P : Program} {T : Tab} {base : Nat} {c : Code} {cs : List Code} {st : AS} {K : Ex→AS→Prop} (h : RunK P T base (c::.loop c::cs) st K) : RunK P T base (.loop c::cs) st K:=by
  obtain ⟨ex,st1,a,d⟩:=h
  cases ex with
  | nor=>
    obtain ⟨b,st2,f,g⟩:=d;exact ⟨b,st2,.loopN a f,g⟩
  | exit i=>exact ⟨_,_,.loopX a qf,d⟩
  | ret=>exact ⟨_,_,.loopX a qf,d⟩
def idxW {α : Type} (xs : List α) (w : Nat × Nat) (k : Int) : Option α:=if 0≤k∧k < w.2 then xs[w.1 + k.toNat]? else none
theorem qfq {α : Type} {xs : List α} {w : Nat × Nat} {k : Int} {v : α} (h : idxW xs w k = some v) : idx xs ((w.1 : Int) + k) = some v:=by
  unfold idxW at h;split at h
  · rename_i a;unfold idx;rw [qq q6];rw [show ((w.1 : Int) + k).toNat = w.1 + k.toNat by omega];exact h
  · cases h
def q14 (n : Nat) (w : Nat × Nat) : Option Unit:=if w.1 + w.2≤n then some () else none
theorem qe2 {n : Nat} {w : Nat × Nat} {u : Unit} (h : q14 n w = some u) : w.1 + w.2≤n:=by
  unfold q14 at h;split at h
  · assumption
  · cases h
def clrw {α : Type} (xs : List α) (w : Nat × Nat) (z : α) : List α:=splice xs w.1 (List.replicate w.2 z)
theorem qiq {α : Type} {xs : List α} {w : Nat × Nat} {z : α} (h : w.1 + w.2≤xs.length) : (clrw xs w z).length = xs.length:=by
  unfold clrw splice;simp;omega
section
variable {P : Program} {T : Tab} {base : Nat} {ops : Array Oper} {dr : Dr} {l : List Oper} {sl : List (Nat × V)} {hp : List (Nat × Blk)} {nx : Nat} {K : AS→Prop} {ty : TypeId} {pos : String} {af : Array Edge} {t : Tmp} {g : Option (Nat × Bool)}
theorem qgf {α : Type} {x y : Operand} {b : TypeId} {i : TI} {k : IntKind} {n : Int} {m es : Nat} {xs : List α} {w : Nat × Nat} {v : α} (a : idxW xs w n = some v) (o : Qx ops ⟨sl,hp,nx⟩ ⟨some t,.indexAddr b x y,ty,pos,af,g⟩ = some true) (j : T b = some i)
    (p : AS.ev ⟨sl,hp,nx⟩ x = some (.hs m es w.1 w.2)) (r : AS.ev ⟨sl,hp,nx⟩ y = some (.d (.int k n))) (q : i.kind = .slice) (f : es = i.esize)
    (h : OpsK P T base ops dr l ⟨(t,.ref m es ((w.1 : Int) + n).toNat 0)::sl,hp,nx⟩ K) : OpsK P T base ops dr (⟨some t,.indexAddr b x y,ty,pos,af,g⟩::l) ⟨sl,hp,nx⟩ K:=by
  have c : 0≤n∧n < w.2:=by
    unfold idxW at a;split at a
    · assumption
    · cases a
  refine qtb o j p r q f c.1 c.2 ?_;rw [show ((w.1 : Int) + n).toNat = w.1 + n.toNat by omega] at h;exact h
theorem qt9 {α : Type} {x : Operand} {a : TypeId} {i : TI} {n es : Nat} {xs : List α} {enc : α→List DV} (z : α) {w : Nat × Nat} (j : w.1 + w.2≤xs.length) (m : Qx ops ⟨sl,hp,nx⟩ ⟨none,.call {callee:=.builtin .clear,args:=#[x],argTypes:=#[a]},ty,pos,af,g⟩ = some true) (k : T a = some i)
    (o : AS.ev ⟨sl,hp,nx⟩ x = some (.hs n es w.1 w.2)) (hb : find hp n = some (.dat es (xs.map enc))) (p : i.kind = .slice) (c : i.esize = es) (f : i.ezero = enc z)
    (h : OpsK P T base ops dr l ⟨sl,repl hp n (.dat es ((clrw xs w z).map enc)),nx⟩ K) (b : okO dr l.length ⟨sl,hp,nx⟩ (.call {callee:=.builtin .clear,args:=#[x],argTypes:=#[a]}) ⟨sl,repl hp n (.dat es ((clrw xs w z).map enc)),nx⟩ = true:=by rfl) :
    OpsK P T base ops dr (⟨none,.call {callee:=.builtin .clear,args:=#[x],argTypes:=#[a]},ty,pos,af,g⟩::l) ⟨sl,hp,nx⟩ K:=by
  subst c;refine Ye m (v:=.d (.tup [])) (st1:=⟨sl,repl hp n (.dat i.esize ((clrw xs w z).map enc)),nx⟩) ?_ h b;simp only [opFn,evL,o,Ya];simp only [List.getElem?_toArray,List.getElem?_cons_zero,k];rw [qq ⟨p,by simp [Zy]⟩];simp only [Jw,AS.blk,hb];rw [qq ⟨by simpa using j,trivial⟩,f];simp [clrw,splice,AS.setBlk]
end
section
variable {P : Program} {T : Tab} {base : Nat} {ops : Array Oper} {dr : Dr} {l : List Oper} {sl : List (Nat × V)} {hp : List (Nat × Blk)} {nx : Nat} {K : AS→Prop} {ty : TypeId} {pos : String} {af : Array Edge} {t : Tmp} {g : Option (Nat × Bool)}
end
end Go.Am
namespace Go.Am
open Go
theorem J {α : Sort _} {a : α} : a = a:=rfl
abbrev q7 (n : Int) : DV:=.int .i64 n
abbrev q9 (n : Int) : V:=.d (.int .i64 n)
abbrev Q1 (b : Bool) : V:=.d (.bool b)
section
variable {P : Program} {T : Tab} {base : Nat} {ops : Array Oper} {dr : Dr} {l : List Oper} {sl : List (Nat × V)} {hp : List (Nat × Blk)} {nx : Nat} {K : AS→Prop} {ty : TypeId} {pos : String} {af : Array Edge} {t : Tmp} {g : Option (Nat × Bool)} {v : V}
theorem U {x : Operand} (a : (Qx ops ⟨sl,hp,nx⟩ ⟨some t,.move x,ty,pos,af,g⟩,AS.ev ⟨sl,hp,nx⟩ x) = (some true,some v))
    (h : OpsK P T base ops dr l ⟨(t,v)::sl,hp,nx⟩ K) : OpsK P T base ops dr (⟨some t,.move x,ty,pos,af,g⟩::l) ⟨sl,hp,nx⟩ K:=qgh (Prod.mk.inj a).1 (Prod.mk.inj a).2 h
theorem qb {x : Operand} (a : (Qx ops ⟨sl,hp,nx⟩ ⟨some t,.assign x,ty,pos,af,g⟩,AS.ev ⟨sl,hp,nx⟩ x) = (some true,some v))
    (h : OpsK P T base ops dr l ⟨(t,v)::sl,hp,nx⟩ K) : OpsK P T base ops dr (⟨some t,.assign x,ty,pos,af,g⟩::l) ⟨sl,hp,nx⟩ K:=qt8 (Prod.mk.inj a).1 (Prod.mk.inj a).2 h
theorem O {op : Op} (v : V) (a : (Qx ops ⟨sl,hp,nx⟩ ⟨some t,op,ty,pos,af,g⟩,opFn T ⟨sl,hp,nx⟩ op) = (some true,some (v,⟨sl,hp,nx⟩))) (h : OpsK P T base ops dr l ⟨(t,v)::sl,hp,nx⟩ K)
    (b : okO dr l.length ⟨sl,hp,nx⟩ (op) ⟨sl,hp,nx⟩ = true:=by rfl) : OpsK P T base ops dr (⟨some t,op,ty,pos,af,g⟩::l) ⟨sl,hp,nx⟩ K:=qtr v (Prod.mk.inj a).1 (Prod.mk.inj a).2 h b
theorem Qm {op : Op} (n : Nat) (b : Blk) (a : (Qx ops ⟨sl,hp,nx⟩ ⟨none,op,ty,pos,af,g⟩,opFn T ⟨sl,hp,nx⟩ op) = (some true,some (.dead,⟨sl,repl hp n b,nx⟩))) (h : OpsK P T base ops dr l ⟨sl,repl hp n b,nx⟩ K) (c : okO dr l.length ⟨sl,hp,nx⟩ (op) ⟨sl,repl hp n b,nx⟩ = true:=by rfl) : OpsK P T base ops dr (⟨none,op,ty,pos,af,g⟩::l) ⟨sl,hp,nx⟩ K:=
  qtq n b (Prod.mk.inj a).1 (Prod.mk.inj a).2 h c
theorem Qq {op : Op} (v : V) (b : Blk) (a : (Qx ops ⟨sl,hp,nx⟩ ⟨some t,op,ty,pos,af,g⟩,opFn T ⟨sl,hp,nx⟩ op) = (some true,some (v,⟨sl,(nx,b)::hp,nx + 1⟩))) (h : OpsK P T base ops dr l ⟨(t,v)::sl,(nx,b)::hp,nx + 1⟩ K) (c : okO dr l.length ⟨sl,hp,nx⟩ (op) ⟨sl,(nx,b)::hp,nx + 1⟩ = true:=by rfl) : OpsK P T base ops dr (⟨some t,op,ty,pos,af,g⟩::l) ⟨sl,hp,nx⟩ K:=
  qtk v b (Prod.mk.inj a).1 (Prod.mk.inj a).2 h c
theorem q5p {α : Type} {x : Operand} {a : TypeId} {i : TI} {es : Nat} {xs : List α} {enc : α→List DV} (n : Int) (c : (xs.length : Int) = n) (b : Qx ops ⟨sl,hp,nx⟩ ⟨some t,.call {callee:=.builtin .len,args:=#[x],argTypes:=#[a]},ty,pos,af,g⟩ = some true) (k : T a = some i) (j : i.kind = .slice) (f : AS.ev ⟨sl,hp,nx⟩ x = some (.d (.sl es (xs.map enc))))
    (h : OpsK P T base ops dr l ⟨(t,.d (.int .i64 n))::sl,hp,nx⟩ K) : OpsK P T base ops dr (⟨some t,.call {callee:=.builtin .len,args:=#[x],argTypes:=#[a]},ty,pos,af,g⟩::l) ⟨sl,hp,nx⟩ K:=by
  subst c;exact qlh b k j f h
theorem Q9 {α : Type} {x y : Operand} {a : TypeId} {i : TI} {k : IntKind} {n : Int} {es : Nat} {xs : List α} {enc : α→List DV} {v : α} (p : idx xs n = some v)
    (b : (Qx ops ⟨sl,hp,nx⟩ ⟨some t,.indexAddr a x y,ty,pos,af,g⟩,T a,AS.ev ⟨sl,hp,nx⟩ x,AS.ev ⟨sl,hp,nx⟩ y,i.kind,es) = (some true,some i,some (.d (.sl es (xs.map enc))),some (.d (.int k n)),.slice,i.esize))
    (h : OpsK P T base ops dr l ⟨(t,.dref (enc v) 0)::sl,hp,nx⟩ K) : OpsK P T base ops dr (⟨some t,.indexAddr a x y,ty,pos,af,g⟩::l) ⟨sl,hp,nx⟩ K:=by
  simp only [Prod.mk.injEq] at b;obtain ⟨o,q,j,f,m,c⟩:=b;exact qtd p o q j f m c h
theorem qz {α : Type} {x y : Operand} {a : TypeId} {i : TI} {k : IntKind} {n : Int} {m es len : Nat} {xs : List α} {v : α} (q : idx xs n = some v) (s : len = xs.length)
    (b : (Qx ops ⟨sl,hp,nx⟩ ⟨some t,.indexAddr a x y,ty,pos,af,g⟩,T a,AS.ev ⟨sl,hp,nx⟩ x,AS.ev ⟨sl,hp,nx⟩ y,i.kind,es) = (some true,some i,some (.hs m es 0 len),some (.d (.int k n)),.slice,i.esize))
    (h : OpsK P T base ops dr l ⟨(t,.ref m es n.toNat 0)::sl,hp,nx⟩ K) : OpsK P T base ops dr (⟨some t,.indexAddr a x y,ty,pos,af,g⟩::l) ⟨sl,hp,nx⟩ K:=by
  simp only [Prod.mk.injEq] at b;obtain ⟨p,r,j,f,o,c⟩:=b;exact qtc q s p r j f o c h
theorem Qc {α : Type} {p : Operand} {a : TypeId} {i : TI} {m es j : Nat} {n : Int} {xs : List α} {enc : α→List DV} {r : List DV} {v : α} (w : V) (u : idx xs n = some v)
    (b : (Qx ops ⟨sl,hp,nx⟩ ⟨some t,.load a p,ty,pos,af,g⟩,T a,AS.ev ⟨sl,hp,nx⟩ p,find hp m,sub (enc v) j i.size,(q1s i.agg r).map V.d) = (some true,some i,some (.ref m es n.toNat j),some (.dat es (xs.map enc)),some r,some w))
    (h : OpsK P T base ops dr l ⟨(t,w)::sl,hp,nx⟩ K) (f : okF dr l.length (fp ⟨sl,hp,nx⟩ (.load a p)) = true:=by rfl) : OpsK P T base ops dr (⟨some t,.load a p,ty,pos,af,g⟩::l) ⟨sl,hp,nx⟩ K:=by
  simp only [Prod.mk.injEq] at b;obtain ⟨s,x,o,k,q,c⟩:=b;exact qth w u s x o k q c h f
theorem Qh {α : Type} {x : Operand} {a : TypeId} {i : TI} {es : Nat} {xs : List α} {enc : α→List DV}
    (b : (Qx ops ⟨sl,hp,nx⟩ ⟨some t,.call {callee:=.builtin .len,args:=#[x],argTypes:=#[a]},ty,pos,af,g⟩,T a,i.kind,AS.ev ⟨sl,hp,nx⟩ x) = (some true,some i,.slice,some (.d (.sl es (xs.map enc)))))
    (h : OpsK P T base ops dr l ⟨(t,.d (.int .i64 (xs.length : Int)))::sl,hp,nx⟩ K) : OpsK P T base ops dr (⟨some t,.call {callee:=.builtin .len,args:=#[x],argTypes:=#[a]},ty,pos,af,g⟩::l) ⟨sl,hp,nx⟩ K:=by
  simp only [Prod.mk.injEq] at b;obtain ⟨j,k,f,c⟩:=b;exact qlh j k f c h
theorem Q4 {c : Call} {f : FuncId} {ds : List DV} {r : DV} {a : List V} (b : Pure P T f ds r) (j : (Qx ops ⟨sl,hp,nx⟩ ⟨some t,.call c,ty,pos,af,g⟩,callee ⟨sl,hp,nx⟩ c,Ku hp a,a.all V.isD) = (some true,some (f,a),some ds,true))
    (h : OpsK P T base ops dr l ⟨(t,.d r)::sl,hp,nx⟩ K) (k : okF dr l.length (fpC a) = true:=by rfl) : OpsK P T base ops dr (⟨some t,.call c,ty,pos,af,g⟩::l) ⟨sl,hp,nx⟩ K:=by
  simp only [Prod.mk.injEq] at j;obtain ⟨o,p,n,m⟩:=j;exact q98 a b o p n (.inl m) h k
theorem Q5 {st : AS} {c : List ResultVar} {r : DV} (v : V) (a : (resV T st c,toD st.hp 8 v) = (some v,some r)) : (Ex.ret = .nor∨Ex.ret = .ret)∧∃ v b,resV T st c = some v∧toD st.hp 8 v = some b∧DLe b r:=by
  simp only [Prod.mk.injEq] at a;exact ⟨.inr rfl,v,r,a.1,a.2,.refl _⟩
theorem qc {id : Nat} {ops : Array Oper} {b : Code} {cs : List Code} {st : AS} {K : Ex→AS→Prop} (h : OpsK P T base ops none ops.toList st (fun st'=>RunK P T base (b::cs) st' K)) : RunK P T base (.seq (.region id ops false) b::cs) st K:=qe (qw h)
theorem qu {a ops : Array Oper} {id : Nat} {b : Code} {cs : List Code} {st : AS} {K : Ex→AS→Prop} (h : OpsK P T base ops none ops.toList st (fun st'=>RunK P T base (b::cs) st' K)) : OpsK P T base a dr [] st (fun st'=>RunK P T base (.seq (.region id ops false) b::cs) st' K):=qa (qe (qw h))
theorem qs {a : Array Oper} {cs : List Code} {st : AS} {K : Ex→AS→Prop} (h : K .ret st) : OpsK P T base a dr [] st (fun st'=>RunK P T base (.ret::cs) st' K):=qa (Uz h)
theorem qv {a : Array Oper} {st : AS} {K : Ex→AS→Prop} (h : K .nor st) : OpsK P T base a dr [] st (fun st'=>RunK P T base [] st' K):=qa (Qg h)
theorem Ka {dst : Option Tmp} {c : Call} {f : FuncId} {j : List V} {hp0 o : List (Nat × Blk)} {k s : Nat} {vR : V} (m p : List (Nat × Nat)) (q : List V) (t : V) (n : Nat) (a : List (Nat × Blk)) (b : Nat) (u : K9 P T f j hp0 k vR o s)
    (h : OpsK P T base ops none l ((⟨sl,a,b⟩ : AS).putD dst t) K)
    (hg : Qx ops ⟨sl,hp,nx⟩ ⟨dst,.call c,ty,pos,af,g⟩ = some true:=by exact rfl) (w : callee ⟨sl,hp,nx⟩ c = some (f,q):=by exact rfl) (r : q.length = j.length:=by exact rfl)
    (x : wkOk 0 m [] [] hp0 k = true:=by exact rfl)
    (y : WkL ⟨Y9 0 q,hp,nx⟩ (rho m) [] [] k (Y9 0 j):=by
      repeat' first | exact trivial | refine And.intro (Exists.intro _ (And.intro rfl ?_)) ?_ | exact Wv.d (DLe.refl _) | exact Wv.ref rfl Q2 (ltd rfl) | exact Wv.mp rfl Q2 (ltd rfl) | exact Wv.hs rfl Q2 (ltd rfl) | exact Wv.d (DLe.nil _) | refine qe3 ?_ | refine qhp ?_ | refine q28 ?_ | refine WvL.cons ?_ ?_ | exact WvL.nil | exact Wv.dref _ _ | exact Wv.yld rfl Q2 (ltd rfl))
    (b1 : WkH ⟨Y9 0 q,hp,nx⟩ (rho m) [] [] k hp0:=by
      repeat' first | exact trivial | refine And.intro (And.intro (ltd rfl) (Or.inr (And.intro Q2 (Exists.intro _ (And.intro rfl ?_))))) ?_ | exact Wb.dat _ _ | exact Wb.mp _ | refine Jk ?_ | refine qhm ?_ | refine WvC.cons ?_ rfl ?_ | exact WvC.nil | exact Wv.d (DLe.refl _) | exact Wv.ref rfl Q2 (ltd rfl) | exact Wv.mp rfl Q2 (ltd rfl) | exact Wv.hs rfl Q2 (ltd rfl) | exact Wv.d (DLe.nil _))
    (z : wkOk 0 p [] [] (a.take n) b = true:=by exact rfl)
    (v : WkL ⟨[(0,vR)],o,s⟩ (rho p) [] [] b [(0,t)]:=by
      repeat' first | exact trivial | refine And.intro (Exists.intro _ (And.intro rfl ?_)) ?_ | exact Wv.d (DLe.refl _) | exact Wv.ref rfl Q2 (ltd rfl) | exact Wv.mp rfl Q2 (ltd rfl) | exact Wv.hs rfl Q2 (ltd rfl) | exact Wv.d (DLe.nil _) | refine qe3 ?_ | refine qhp ?_ | refine q28 ?_ | refine WvL.cons ?_ ?_ | exact WvL.nil | exact Wv.dref _ _ | exact Wv.yld rfl Q2 (ltd rfl))
    (b3 : WkH ⟨[(0,vR)],o,s⟩ (rho p) [] [] b (a.take n):=by
      repeat' first | exact trivial | refine And.intro (And.intro (ltd rfl) (Or.inr (And.intro Q2 (Exists.intro _ (And.intro rfl ?_))))) ?_ | exact Wb.dat _ _ | exact Wb.mp _ | refine Jk ?_ | refine qhm ?_ | refine WvC.cons ?_ rfl ?_ | exact WvC.nil | exact Wv.d (DLe.refl _) | exact Wv.ref rfl Q2 (ltd rfl) | exact Wv.mp rfl Q2 (ltd rfl) | exact Wv.hs rfl Q2 (ltd rfl) | exact Wv.d (DLe.nil _))
    (hb : q8h m p k s nx b = true:=by exact rfl)
    (hold : OldL m k hp (a.take n) a:=by repeat' first | exact trivial | refine And.intro (Or.inl rfl) ?_ | refine And.intro (Or.inr (And.intro rfl rfl)) ?_) :
    OpsK P T base ops none (⟨dst,.call c,ty,pos,af,g⟩::l) ⟨sl,hp,nx⟩ K:=
  Jz m p q t (a.take n) a b u hg w r (Yk m [] [] x y b1) (Yk p [] [] z v b3) hb hold h
end
inductive WvR (st : AS) (ρ : Nat→Nat) (fz ph : List Nat) (nx : Nat) : List (List V)→List (List V)→Prop
  | nil : WvR st ρ fz ph nx [] []
  | cons {c d : List V} {cs ds : List (List V)} : WvC st ρ fz ph nx c d→WvR st ρ fz ph nx cs ds→WvR st ρ fz ph nx (c::cs) (d::ds)
theorem WvR.len {st : AS} {ρ : Nat→Nat} {fz ph : List Nat} {nx : Nat} {cs ds : List (List V)} (h : WvR st ρ fz ph nx cs ds) : cs.length = ds.length:=by
  induction h with
  | nil=>rfl
  | cons _ _ ih=>simp [ih]
theorem WvR.get {st : AS} {ρ : Nat→Nat} {fz ph : List Nat} {nx : Nat} {cs ds : List (List V)} (h : WvR st ρ fz ph nx cs ds) : ∀ (j : Nat) (c d : List V),cs[j]? = some c→ds[j]? = some d→WvC st ρ fz ph nx c d:=by
  induction h with
  | nil=>intro i x y h;simp at h
  | cons h1 _ ih=>
    intro i x y a b
    cases i with
    | zero=>simp at a b;subst a;subst b;exact h1
    | succ i=>exact ih i x y (by simpa using a) (by simpa using b)
theorem q12v {st : AS} {ρ : Nat→Nat} {fz ph : List Nat} {nx es : Nat} {cs ds : List (List V)} (h : WvR st ρ fz ph nx cs ds) : Wb st ρ fz ph nx (.cel es cs) (.cel es ds):=
  .cel h.len fun i x y a b=>⟨(h.get i x y a b).len,(h.get i x y a b).get⟩
theorem q12w {st : AS} {ρ : Nat→Nat} {fz ph : List Nat} {nx es : Nat} {cs : List (List DV)} {ds : List (List V)} (h : WvR st ρ fz ph nx (cs.map (·.map .d)) ds) : Wb st ρ fz ph nx (.dat es cs) (.cel es ds):=by
  refine .datcel (by simpa using h.len) fun i x y f g=>?_;have a:=h.get i (x.map .d) y (by simp [f]) g;refine ⟨by simpa using a.len,fun j c d b hd=>a.get j (.d c) d (by simp [b]) hd⟩
theorem wkA {base : Nat} {st st' : AS} (l : List (Nat × Nat)) (fz ph : List Nat) (a : wkOk base l fz ph st'.hp st'.nx = true:=by exact rfl)
    (hs : WkL st (rho l) fz ph st'.nx st'.sl:=by
      repeat' first | exact trivial | refine And.intro (Exists.intro _ (And.intro rfl ?_)) ?_ | exact Wv.d (DLe.refl _) | exact Wv.ref rfl Q2 (ltd rfl) | exact Wv.mp rfl Q2 (ltd rfl) | exact Wv.hs rfl Q2 (ltd rfl) | exact Wv.d (DLe.nil _) | exact Wv.nil Q2 (ltd rfl) | exact qon rfl rfl Q2 | refine qe3 ?_ | refine q132 ?_ | refine qhp ?_ | refine q133 ?_ | refine q28 ?_ | refine WvL.cons ?_ ?_ | exact WvL.nil | exact Wv.dref _ _ | exact Wv.yld rfl Q2 (ltd rfl))
    (b : WkH st (rho l) fz ph st'.nx st'.hp:=by
      repeat' first | exact trivial | refine And.intro (And.intro (ltd rfl) (Or.inr (And.intro Q2 (Exists.intro _ (And.intro rfl ?_))))) ?_ | refine And.intro (And.intro (ltd rfl) (Or.inl (And.intro Q2 (Exists.intro _ (And.intro Q2 rfl))))) ?_ | exact Wb.dat _ _ | exact Wb.mp _ | refine Jk ?_ | refine qhm ?_ | refine q12v ?_ | refine q12w ?_ | refine WvR.cons ?_ ?_ | exact WvR.nil | refine q12x ?_ | refine WvS.cons rfl ?_ ?_ | exact WvS.nil | refine WvC.cons ?_ rfl ?_ | exact WvC.nil | exact Wv.d (DLe.refl _) | exact Wv.ref rfl Q2 (ltd rfl) | exact Wv.mp rfl Q2 (ltd rfl) | exact Wv.hs rfl Q2 (ltd rfl) | exact Wv.d (DLe.nil _) | exact Wv.nil Q2 (ltd rfl) | exact qon rfl rfl Q2 | refine q28 ?_ | refine qe3 ?_ | refine WvL.cons ?_ ?_ | exact WvL.nil | exact Wv.yld rfl Q2 (ltd rfl)) : WkE base st st':=wkE l fz ph a hs b
theorem qr {st : AS} {ρ : Nat→Nat} {fz ph : List Nat} {nx t : Nat} {x : DV} (h : st.get t = some (.d x)) : ∃ v,st.get t = some v∧Wv st ρ fz ph nx v (.d x):=⟨_,h,.d (.refl _)⟩
theorem Qt {st : AS} {ρ : Nat→Nat} {fz ph : List Nat} {nx n es : Nat} {xs : List (List DV)} (c : Nat.blt n nx = true) (a : st.blk (ρ n) = some (.dat es xs)) (d : n ∉ ph:=by decide) :
    n < nx∧((n∈ph∧∃ e,e≠0∧(Blk.dat es xs) = .dat e [])∨(n ∉ ph∧∃ b,st.blk (ρ n) = some b∧Wb st ρ fz ph nx b (.dat es xs))):=⟨ltd c,.inr ⟨d,_,a,.dat _ _⟩⟩
abbrev q0 : Option (List Nat) × List Nat:=(some [],[])
abbrev qt (n : Nat) : Option (List Nat) × List Nat:=(some [n],[])
abbrev Qv (n : Nat) : Option (List Nat) × List Nat:=(some [n],[n])
end Go.Am
namespace Go.Am
open Go
inductive DLeR : List (List DV)→List (List DV)→Prop
  | nil : DLeR [] []
  | cons {x y : List DV} {xs ys : List (List DV)} : DLeL x y→DLeR xs ys→DLeR (x::xs) (y::ys)
structure q3b (ag : Bool) (ks : List (Option IntKind)) {α : Type} [DecidableEq α] (ek : α→DV) : Prop where
  agg : ∀ k,Zs (ek k) = ag
  len : ∀ k,(cellsD (ek k)).length = ks.length
  eq : ∀ a b,Kh ks (cellsD (ek a)) (cellsD (ek b)) = some (decide (a = b))
theorem key2 {k j : IntKind} : q3b true [some k,some j] (fun n : Int × Int=>DV.agg [.int k n.1,.int j n.2]):=
  ⟨fun _=>rfl,fun _=>rfl,fun a b=>by
    obtain ⟨f,d⟩:=a;obtain ⟨b1,c⟩:=b
    simp [cellsD,Kh,q2a];rfl⟩
section
variable {α β : Type} [DecidableEq α]
def Z9 (z : β) (k : α) : List (α × β)→β
  | []=>z
  | (a,v)::r=>if k = a then v else Z9 z k r
def qg5 (k : α) : List (α × β)→Bool
  | []=>false
  | (a,_)::r=>if k = a then true else qg5 k r
def Ug (k : α) (v : β) : List (α × β)→List (α × β)
  | []=>[(k,v)]
  | (a,w)::r=>if k = a then (k,v)::r else (a,w)::Ug k v r
abbrev mrow (ek : α→DV) (ev : β→DV) (es : List (α × β)) : List (DV × DV):=es.map fun e=>(ek e.1,ev e.2)
variable {ag : Bool} {ks : List (Option IntKind)} {ek : α→DV} {ev : β→DV}
def q2q (k : α) : List (α × β)→Option Nat
  | []=>none
  | (a,_)::r=>if k = a then some 0 else (q2q k r).map (· + 1)
theorem qg4 (b : q3b ag ks ek) (k : α) : ∀ es : List (α × β),Zl ag ks (ek k) (mrow ek ev es) = some (q2q k es)
  | []=>rfl
  | (a,v)::r=>by
    have c:=qg4 b k r
    simp only [mrow,List.map_cons,Zl,b.agg,and_self,if_true,b.eq,q2q] at c ⊢
    by_cases h : k = a
    · simp [h]
    · simp only [h,decide_false,if_false,c]
      cases q2q k r <;> rfl
theorem qkp (a : q3b ag ks ek) (k : α) : Ue ag ks (ek k) = true:=by
  simp [Ue,a.agg,a.len]
theorem qsu (b : q3b ag ks ek) (z : β) (k : α) (es : List (α × β)) : mget ag ks (ev z) (ek k) (mrow ek ev es) = some (ev (Z9 z k es),qg5 k es):=by
  unfold mget;rw [qg4 b]
  induction es with
  | nil=>rfl
  | cons e r ih=>
    obtain ⟨a,v⟩:=e;simp only [q2q,Z9,qg5];by_cases h : k = a
    · simp [h]
    · simp only [h,if_false]
      cases hp : q2q k r with
      | none=>rw [hp] at ih;simpa using ih
      | some j=>rw [hp] at ih;simpa using ih
theorem qsy (b : q3b ag ks ek) (k : α) (v : β) (es : List (α × β)) : mput ag ks (ek k) (ev v) (mrow ek ev es) = some (mrow ek ev (Ug k v es)):=by
  unfold mput;rw [qg4 b]
  induction es with
  | nil=>rfl
  | cons e r ih=>
    obtain ⟨a,w⟩:=e;simp only [q2q,Ug];by_cases h : k = a
    · simp [h]
    · simp only [h,if_false]
      cases hp : q2q k r with
      | none=>rw [hp] at ih;simp at ih ⊢;exact ih
      | some j=>rw [hp] at ih;simp at ih ⊢;exact ih
end
section
variable {P : Program} {T : Tab} {base : Nat} {ops : Array Oper} {dr : Dr} {l : List Oper} {sl : List (Nat × V)} {hp : List (Nat × Blk)} {nx : Nat} {K : AS→Prop} {ty : TypeId} {pos : String} {af : Array Edge} {t : Tmp} {g : Option (Nat × Bool)}
variable {α β : Type} [DecidableEq α] {ek : α→DV} {ev : β→DV} {mt : TypeId} {i : TI} {ks : List (Option IntKind)} {n : Nat} {es : List (α × β)}
theorem qti {x a : Operand} (c : q3b i.eagg ks ek) (z : β) (k : α) (j : Qx ops ⟨sl,hp,nx⟩ ⟨some t,.lookup mt x a false,ty,pos,af,g⟩ = some true) (q : T mt = some i) (b : i.keys = some ks) (p : i.ezero = [ev z])
    (m : AS.ev ⟨sl,hp,nx⟩ x = some (.mp n)) (o : AS.ev ⟨sl,hp,nx⟩ a = some (.d (ek k))) (hb : find hp n = some (.mp (mrow ek ev es)))
    (h : OpsK P T base ops dr l ⟨(t,.d (ev (Z9 z k es)))::sl,hp,nx⟩ K) (f : okO dr l.length ⟨sl,hp,nx⟩ (.lookup mt x a false) ⟨sl,hp,nx⟩ = true:=by rfl) : OpsK P T base ops dr (⟨some t,.lookup mt x a false,ty,pos,af,g⟩::l) ⟨sl,hp,nx⟩ K:=by
  refine Ye j (v:=.d (ev (Z9 z k es))) (st1:=⟨sl,hp,nx⟩) ?_ h f;simp only [opFn,q,m,o,b,AS.blk,hb,p,qkp c,if_true,qsu c,Option.map_some,qx]
theorem qtj {m a y : Operand} (c : q3b i.eagg ks ek) (k : α) (v : β) (o : Qx ops ⟨sl,hp,nx⟩ ⟨none,.mapUpdate mt m a y,ty,pos,af,g⟩ = some true) (s : T mt = some i) (b : i.keys = some ks)
    (f : AS.ev ⟨sl,hp,nx⟩ m = some (.mp n)) (p : AS.ev ⟨sl,hp,nx⟩ a = some (.d (ek k))) (q : AS.ev ⟨sl,hp,nx⟩ y = some (.d (ev v))) (hb : find hp n = some (.mp (mrow ek ev es))) (r : Yg (ev v) = true)
    (h : OpsK P T base ops dr l ⟨sl,repl hp n (.mp (mrow ek ev (Ug k v es))),nx⟩ K) (j : okO dr l.length ⟨sl,hp,nx⟩ (.mapUpdate mt m a y) ⟨sl,repl hp n (.mp (mrow ek ev (Ug k v es))),nx⟩ = true:=by rfl) : OpsK P T base ops dr (⟨none,.mapUpdate mt m a y,ty,pos,af,g⟩::l) ⟨sl,hp,nx⟩ K:=by
  refine Ye o (v:=.dead) (st1:=⟨sl,repl hp n (.mp (mrow ek ev (Ug k v es))),nx⟩) ?_ h j;simp only [opFn,s,f,p,q,b,AS.blk,hb,qkp c,r,and_self,if_true,qsy c,Option.map_some];rfl
end
end Go.Am
