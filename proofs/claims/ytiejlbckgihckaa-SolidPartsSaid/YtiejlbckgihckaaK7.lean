/- Lf3 Lf4 Lf5 Lf6 -/
import Derived.Test.YtiejlbckgihckaaK6
namespace Go.Am
open Go
theorem RunK.toEv {P : Program} {T : Tab} {base : Nat} {c : Code} {st : AS} {K : Ex→AS→Prop} (h : RunK P T base [c] st K) : ∃ ex st',Kq P T base c st ex st'∧K ex st':=q47 h
section
variable {P : Program} {T : Tab} {base : Nat} {ops : Array Oper} {l : List Oper} {sl : List (Nat × V)} {hp : List (Nat × Blk)} {nx : Nat} {K : AS→Prop} {ty : TypeId} {pos : String} {af : Array Edge} {dst : Option Tmp} {g : Option (Nat × Bool)}
theorem qct {β : Type} {c : Call} {f : FuncId} {fn : Func} {j : Code} (k : List V) (E : β→Prop) (S : β→AS) (n : Ql ops ⟨sl,hp,nx⟩ ⟨dst,.call c,ty,pos,af,g⟩ = some true) (u : callee ⟨sl,hp,nx⟩ c = some (f,k))
    (t : P.funcs[f]? = some fn) (hb : fn.body = some j) (a : (fn.name == "runtime.NumGoroutine") = false) (m : codeOk fn.ntmps j = true) (o : Nat.ble k.length fn.ntmps = true)
    (h : RunK P T nx [j] ⟨Kv 0 k,hp,nx⟩ (fun ex st'=>(ex = .nor∨ex = .ret)∧∃ v,resV T st' fn.results.toList = some v∧∃ b,E b∧WkE base ((⟨sl,st'.hp,st'.nx⟩ : AS).putD dst v) (S b)))
    (r : ∀ b,E b→OpsK P T base ops none l (S b) K) : OpsK P T base ops none (⟨dst,.call c,ty,pos,af,g⟩::l) ⟨sl,hp,nx⟩ K:=by
  obtain ⟨ex,st',e,s,v,y,b,d,q⟩:=h.toEv;obtain ⟨st2,x,p⟩:=r b d;obtain ⟨ρ,fz,ph,w⟩:=q;exact ⟨st2,.callS n rfl u (.mk t hb a m (by simpa using o) e s y) (.wk w x),p⟩
theorem qcz {β : Type} {c : Call} {gf : Operand} {n : Nat} {u : List V} {s : List (Nat × V)} {f : List Tmp} {assign body A B : Code} (E : β→Prop) (S : β→AS) (hA : assign = A) (hB : body = B) (hg : Ql ops ⟨sl,hp,nx⟩ ⟨dst,.call c,ty,pos,af,g⟩ = some true)
    (p : c.callee = .value gf) (q : AS.ev ⟨sl,hp,nx⟩ gf = some (.yld n)) (z : evL (AS.ev ⟨sl,hp,nx⟩) c.args.toList = some u) (hb : find hp n = some (.loop s f A B .ready none)) (hl : f.length = u.length)
    (h : RunK P T nx [assign] ⟨q15 s f u,hp,nx⟩ (fun ex st1=>ex = .nor∧∃ v,find st1.hp n = some (.loop v f A B .ready none)∧
      RunK P T nx [body] (st1.setBlk n (.loop v f A B .busy none)) (fun ex st2=>∃ o,find st2.hp n = some (.loop o f A B .busy none)∧match ex with
        | .nor=>∃ b,E b∧WkE base ((⟨sl,repl st2.hp n (.loop o f A B .ready none),st2.nx⟩ : AS).putD dst (.d (.bool true))) (S b)
        | ex=>OpsK P T base ops none l ((⟨sl,repl st2.hp n (.loop o f A B .done ex.code),st2.nx⟩ : AS).putD dst (.d (.bool false))) K)))
    (hr : ∀ b,E b→OpsK P T base ops none l (S b) K) : OpsK P T base ops none (⟨dst,.call c,ty,pos,af,g⟩::l) ⟨sl,hp,nx⟩ K:=by
  subst hA hB;obtain ⟨ag,st1,e1,rfl,v,y,k⟩:=h.toEv;obtain ⟨ex,st2,e2,o,x,t⟩:=k.toEv
  have key : ∀ a,Kg P T base ops none l ((⟨sl,repl st2.hp n (.loop o f assign body (if ex = .nor then .ready else .done) ex.code),st2.nx⟩ : AS).putD dst (.d (.bool (decide (ex = .nor))))) a→Kg P T base ops none (⟨dst,.call c,ty,pos,af,g⟩::l) ⟨sl,hp,nx⟩ a:=
    fun a h3=>.callY hg rfl p q z hb hl e1 y e2 x h3
  cases ex with
  | nor=>
    obtain ⟨b,r,ρ,fz,ph,w⟩:=t;obtain ⟨a,j,m⟩:=hr b r;exact ⟨a,key a (.wk w j),m⟩
  | exit i=>
    obtain ⟨a,j,m⟩:=t;exact ⟨a,key a j,m⟩
  | ret=>
    obtain ⟨a,j,m⟩:=t;exact ⟨a,key a j,m⟩
end
section
variable {P : Program} {T : Tab} {base : Nat} {cs : List Code} {sl : List (Nat × V)} {hp : List (Nat × Blk)} {nx : Nat} {K : Ex→AS→Prop}
def qaz (P : Program) (T : Tab) (base : Nat) (cs : List Code) (K : Ex→AS→Prop) : Ex→AS→Prop:=q90 (fun st'=>RunK P T base cs st' K) K
theorem qde {j : Operand} {m : Array Tmp} {assign body : Code} {f : FuncId} {fn : Func} {l : Code} (a : List V)
    (o : AS.ev ⟨sl,hp,nx⟩ j = some (.fn f a)∨∃ ds,AS.ev ⟨sl,hp,nx⟩ j = some (.d (.fn f ds))∧a = ds.map .d)
    (w : P.funcs[f]? = some fn) (hb : fn.body = some l) (c : (fn.name == "runtime.NumGoroutine") = false) (n : codeOk fn.ntmps l = true) (q : Nat.ble (a.length + 1) fn.ntmps = true)
    (h : ∀ A B,assign = A→body = B→RunK P T (nx + 1) [l] ⟨Kv 0 (.yld nx::a),(nx,.loop sl m.toList A B .ready none)::hp,nx + 1⟩ (fun g b=>(g = .nor∨g = .ret)∧∃ v,resV T b fn.results.toList = some v∧
      ∃ (s : List (Nat × V)) (k : LoopState) (ex : Ex),find b.hp nx = some (.loop s m.toList A B k ex.code)∧k≠.busy∧qaz P T base cs K ex ⟨sl,repl b.hp nx .dead,b.nx⟩)) :
    RunK P T base (.rangeFunc j m assign body::cs) ⟨sl,hp,nx⟩ K:=by
  obtain ⟨g,b,e,u,v,x,s,k,ex,p,t,r⟩:=(h assign body rfl rfl).toEv;exact ⟨ex,_,.rangeF (pe:=ex.code) o (.mk w hb c n (by simpa using q) e u x) p t rfl,r⟩
theorem qb0 {st : AS} (h : RunK P T base cs st K) : qaz P T base cs K .nor st:=h
theorem qkh {st : AS} (h : K .ret st) : qaz P T base cs K .ret st:=h
end
inductive WvS (st : AS) (ρ : Nat→Nat) (fz ph : List Nat) (nx : Nat) : List (Nat × V)→List (Nat × V)→Prop
  | nil {s : List (Nat × V)} : WvS st ρ fz ph nx s []
  | cons {s s' : List (Nat × V)} {t : Nat} {v v' : V} : find s t = some v→Wv st ρ fz ph nx v v'→WvS st ρ fz ph nx s s'→WvS st ρ fz ph nx s ((t,v')::s')
theorem qxf {st : AS} {ρ : Nat→Nat} {fz ph : List Nat} {nx : Nat} {s b : List (Nat × V)} {c : List Tmp} {as d : Code} {f : LoopState} {pe : Option Code} (h : WvS st ρ fz ph nx s b) : Wb st ρ fz ph nx (.loop s c as d f pe) (.loop b c as d f pe):=by
  refine .loop fun t g a=>?_
  induction h with
  | nil=>simp [find] at a
  | @cons b t' v v'' h1 h2 _ ih=>
    simp only [find] at a
    cases hb : Nat.beq t' t with
    | true=>rw [hb] at a;cases a;obtain rfl:=Nat.eq_of_beq_eq_true hb;exact ⟨v,h1,h2⟩
    | false=>rw [hb] at a;exact ih a
theorem qx1 {α : Type} {enc : α→List DV} {es : Nat} (a : ∀ x,(enc x).length = es) {xs : List α} {k : Nat} {v : α} (h : xs[k]? = some v) : sub (xs.flatMap enc) (k * es) es = some (enc v):=by
  induction xs generalizing k with
  | nil=>simp at h
  | cons x xs ih=>
    cases k with
    | zero=>
      simp at h;subst h;have:=a x;simp [sub,List.flatMap_cons,this]
    | succ k=>
      have b : xs[k]? = some v:=by simpa using h
      have:=ih b;unfold sub at this ⊢;have c:=a x;have f : (k + 1) * es = (enc x).length + k * es:=by rw [Nat.succ_mul,c];omega
      rw [List.flatMap_cons,f];split at this
      · rename_i d;rw [qp (by rw [List.length_append];omega),← List.drop_drop,List.drop_left];exact this
      · cases this
theorem qwq {α : Type} {enc : α→List DV} {es : Nat} (a : ∀ x,(enc x).length = es) {xs : List α} {k : Nat} {v : α} (h : k < xs.length) : splice (xs.flatMap enc) (k * es) (enc v) = (xs.set k v).flatMap enc:=by
  induction xs generalizing k with
  | nil=>simp at h
  | cons x xs ih=>
    have b:=a x;have d:=a v
    cases k with
    | zero=>
      simp only [splice,Nat.zero_mul,List.take_zero,List.nil_append,Nat.zero_add,List.flatMap_cons,List.set_cons_zero];rw [d,← b,List.drop_left]
    | succ k=>
      have:=ih (k:=k) (by simpa using h);simp only [splice] at this ⊢;have c : (k + 1) * es = (enc x).length + k * es:=by rw [Nat.succ_mul,b];omega
      rw [List.flatMap_cons,List.set_cons_succ,List.flatMap_cons,c,← this];rw [List.take_length_add_append,show (enc x).length + k * es + (enc v).length = (enc x).length + (k * es + (enc v).length) by omega,← List.drop_drop,List.drop_left];simp [List.append_assoc]
theorem qmx {α : Type} {enc : α→List DV} {es : Nat} (a : ∀ x,(enc x).length = es) (xs : List α) : (xs.flatMap enc).length = xs.length * es:=by
  induction xs with
  | nil=>simp
  | cons x xs ih=>rw [List.flatMap_cons,List.length_append,a,ih,List.length_cons,Nat.succ_mul];omega
def idxA {α : Type} (n : Nat) (xs : List α) (i : Int) : Option α:=if 0≤i∧i < n then xs[i.toNat]? else none
def andI (k : IntKind) (x y : Int) : Int:=k.wrap (BitVec.ofInt k.bits x &&& BitVec.ofInt k.bits y).toNat
def xorI (k : IntKind) (x y : Int) : Int:=k.wrap (BitVec.ofInt k.bits x ^^^ BitVec.ofInt k.bits y).toNat
section
variable {P : Program} {T : Tab} {base : Nat} {ops : Array Oper} {dr : Dr} {l : List Oper} {sl : List (Nat × V)} {hp : List (Nat × Blk)} {nx : Nat} {K : AS→Prop} {ty : TypeId} {pos : String} {af : Array Edge} {t : Tmp} {g : Option (Nat × Bool)}
theorem qc6 {α : Type} {n : Nat} {xs : List α} {i : Int} {v : α} (h : idxA n xs i = some v) : 0≤i∧i < n∧xs[i.toNat]? = some v:=by
  unfold idxA at h;split at h
  · rename_i a;exact ⟨a.1,a.2,h⟩
  · cases h
theorem qa0 {α : Type} {x y : Operand} {a : TypeId} {i : TI} {k : IntKind} {n : Int} {m es : Nat} {v : α} {xs : List α} (r : idxA i.len xs n = some v) (b : Ql ops ⟨sl,hp,nx⟩ ⟨some t,.indexAddr a x y,ty,pos,af,g⟩ = some true) (q : T a = some i)
    (o : AS.ev ⟨sl,hp,nx⟩ x = some (.ref m es 0 0)) (f : AS.ev ⟨sl,hp,nx⟩ y = some (.d (.int k n))) (j : i.kind = .array)
    (h : OpsK P T base ops dr l ⟨(t,.ref m es 0 (n.toNat * i.esize))::sl,hp,nx⟩ K) : OpsK P T base ops dr (⟨some t,.indexAddr a x y,ty,pos,af,g⟩::l) ⟨sl,hp,nx⟩ K:=by
  obtain ⟨p,c,_⟩:=qc6 r;exact Y4 b (v:=.ref m es 0 (n.toNat * i.esize)) (st1:=⟨sl,hp,nx⟩) (by simp [opFn,o,f,q,q2r,j,p,c]) h (J8 rfl)
theorem qcv {α : Type} {p : Operand} {a : TypeId} {i : TI} {m es sz f : Nat} {n : Int} {xs : List α} {enc : α→List DV} {v : α} (w : V) (r : idxA f xs n = some v) (b : ∀ x,(enc x).length = sz) (c : Ql ops ⟨sl,hp,nx⟩ ⟨some t,.load a p,ty,pos,af,g⟩ = some true) (q : T a = some i)
    (o : AS.ev ⟨sl,hp,nx⟩ p = some (.ref m es 0 (n.toNat * sz))) (hb : find hp m = some (.dat es [xs.flatMap enc])) (hs : sz = i.size) (k : (Uz i.agg (enc v)).map .d = some w)
    (h : OpsK P T base ops dr l ⟨(t,w)::sl,hp,nx⟩ K) (j : okF dr l.length (fp ⟨sl,hp,nx⟩ (.load a p)) = true:=by rfl) : OpsK P T base ops dr (⟨some t,.load a p,ty,pos,af,g⟩::l) ⟨sl,hp,nx⟩ K:=
  qhr c q o hb rfl (by rw [← hs];exact qx1 b (qc6 r).2.2) k h j
theorem qp0 {α : Type} {p x : Operand} {k : TypeId} {i : TI} {m es sz s : Nat} {n : Int} {xs : List α} {enc : α→List DV} {v : α} (j : α) {u : V} (hv : idxA s xs n = some v) (a : ∀ x,(enc x).length = sz) (r : Ql ops ⟨sl,hp,nx⟩ ⟨none,.store k p x,ty,pos,af,g⟩ = some true) (z : T k = some i)
    (hp' : AS.ev ⟨sl,hp,nx⟩ p = some (.ref m es 0 (n.toNat * sz))) (y : AS.ev ⟨sl,hp,nx⟩ x = some u) (hb : find hp m = some (.dat es [xs.flatMap enc])) (hs : sz = i.size) (q : cellsOf u = (enc j).map .d) (w : (enc j).all Y6 = true)
    (h : OpsK P T base ops dr l ⟨sl,repl hp m (.dat es [(xs.set n.toNat j).flatMap enc]),nx⟩ K) (t : okO dr l.length ⟨sl,hp,nx⟩ (.store k p x) ⟨sl,repl hp m (.dat es [(xs.set n.toNat j).flatMap enc]),nx⟩ = true:=by rfl) : OpsK P T base ops dr (⟨none,.store k p x,ty,pos,af,g⟩::l) ⟨sl,hp,nx⟩ K:=by
  have b:=K9 (qc6 hv).2.2;refine Y4 r (v:=.dead) (st1:=⟨sl,repl hp m (.dat es [(xs.set n.toNat j).flatMap enc]),nx⟩) ?_ h t;have f : (cellsOf u).all Kf = true:=by rw [q,List.all_map];exact w
  have c : (cellsOf u).length = i.size:=by rw [q,List.length_map,a];exact hs
  have o : n.toNat * sz + i.size≤(xs.flatMap enc).length:=by
    rw [qmx a,← hs,← Nat.succ_mul];exact Nat.mul_le_mul_right _ b
  simp only [opFn,z,hp',y,Zv,AS.blk,hb,Nat.beq_refl];rw [qs (by simp [f,c])];simp only [List.getElem?_cons_zero];rw [qp o,q,qb1];simp only [qwq a b,AS.setBlk,List.set_cons_zero];rfl
theorem qka {α : Type} {st : AS} {ρ : Nat→Nat} {fz ph : List Nat} {nx n es : Nat} {w : Nat × Nat} {ys : List α} {enc : α→List DV} (b : w.1 + w.2≤ys.length) (hb : st.blk n = some (.dat es (ys.map enc))) (a : n∈fz) : Wv st ρ fz ph nx (.hs n es w.1 w.2) (.d (.sl es (((ys.drop w.1).take w.2).map enc))):=
  .frz hb a (by simpa using b) (by rw [List.map_take,List.map_drop]) rfl
theorem qki {hp : List (Nat × Blk)} {a : List V} {ds C : List DV} (h : Kh hp a = some ds) : Kh hp (a ++ C.map .d) = some (ds ++ C):=by
  induction a generalizing ds with
  | nil=>
    simp [Kh] at h;subst h
    induction C with
    | nil=>rfl
    | cons c C ih=>
      simp only [List.nil_append,List.map_cons] at ih ⊢;simp only [Kh];rw [show toD hp 8 (.d c) = some c from rfl,ih]
  | cons v a ih=>
    simp only [Kh] at h;split at h <;> simp at h
    rename_i x l f b;subst h;simp only [List.cons_append,Kh,f,ih b]
theorem qmy {a : List V} {C : List DV} : fpC (a ++ C.map .d) = fpC a:=by
  unfold fpC;have : (C.map V.d).all V.isD = true:=by rw [List.all_map];simp [V.isD]
  rw [List.all_append,this,Bool.and_true]
theorem Yo {c : Call} {f : FuncId} {C ds : List DV} {r : DV} (a : List V) (b : Pure P T f (ds ++ C) r) (j : Ql ops ⟨sl,hp,nx⟩ ⟨some t,.call c,ty,pos,af,g⟩ = some true) (m : callee ⟨sl,hp,nx⟩ c = some (f,a ++ C.map .d)) (hd : Kh hp a = some ds)
    (hs : (a.all V.isD = true∨r.scalar = true)) (h : OpsK P T base ops dr l ⟨(t,.d r)::sl,hp,nx⟩ K) (k : okF dr l.length (fpC a) = true:=by rfl) : OpsK P T base ops dr (⟨some t,.call c,ty,pos,af,g⟩::l) ⟨sl,hp,nx⟩ K:=by
  refine qho j rfl m (qki hd) ?_ b h (by rw [qmy];exact k);rcases hs with hs | hs
  · left;rw [List.all_append,hs,Bool.true_and,List.all_map];simp [V.isD]
  · exact .inr hs
end
end Go.Am
namespace Go.Am
open Go
theorem Yi {base : Nat} {st st' : AS} (l : List (Nat × Nat)) (fz ph : List Nat) (g : wkOk base l fz ph st'.hp st'.nx = true) (hs : WkL st (rho l) fz ph st'.nx st'.sl) (u : WkH st (rho l) fz ph st'.nx st'.hp) : Wk base (rho l) fz ph st st':=by
  simp only [wkOk,Bool.and_eq_true,Nat.ble_eq,List.all_eq_true] at g;obtain ⟨⟨⟨⟨p,v⟩,q⟩,s⟩,o⟩:=g;refine ⟨?_,?_,?_,?_,?_,p,?_,?_⟩
  · exact fun t y h=>hs.get (Zf h)
  · exact fun n x h=>u.get (Zf h)
  · intro n m b c a k d j r;have:=o _ (Zf a);simp only [Bool.or_eq_true,Bool.and_eq_true,q4k,List.all_eq_true,Bool.not_eq_true'] at this;rcases this with h | h
    · exact absurd h d
    · have:=h.2 _ (Zf k);rcases this with (f | f) | f
      · exact absurd f j
      · rw [r] at f;simp at f
      · exact Nat.eq_of_beq_eq_true f
  · intro n b a d w;have:=o _ (Zf a);simp only [Bool.or_eq_true,Bool.and_eq_true,q4k,Bool.not_eq_true'] at this;rcases this with h | h
    · exact absurd h d
    · rw [q4k.2 w] at h;exact absurd h.1 qb
  · intro n a;unfold rho;split
    · rename_i m k;have:=v _ (Zf k);simp at this;omega
    · rfl
  · exact fun n a=>q n a
  · exact fun n a=>s n a
def q6f (l l3 : List (Nat × Nat)) (k k' nx nxN : Nat) : Bool:=
  (List.range k).all (fun i=>Nat.blt (rho l i) nx && Nat.beq (rho l3 (rho l i)) i) && (List.range nx).all (fun m=>(Nat.blt (rho l3 m) k && Nat.beq (rho l (rho l3 m)) m) || Nat.ble k' (rho l3 m)) && Nat.ble nx nxN
def OldL (l : List (Nat × Nat)) (k : Nat) (hp hpR : List (Nat × Blk)) : List (Nat × Blk)→Prop
  | []=>True
  | (m,b)::r=>(find hpR m = some b∨(find hp m = some b∧(List.range k).all (fun i=>!(Nat.beq (rho l i) m)) = true))∧OldL l k hp hpR r
theorem OldL.get {l : List (Nat × Nat)} {k : Nat} {hp a : List (Nat × Blk)} : ∀ {r : List (Nat × Blk)},OldL l k hp a r→∀ m b,(m,b)∈r→find a m = some b∨(find hp m = some b∧∀ i,i < k→rho l i≠m)
  | [],_,m,b,h=>by cases h
  | (m',b')::r,h,m,b,c=>by
    rcases List.mem_cons.1 c with e | c
    · cases e
      refine h.1.imp (fun x=>x) fun ⟨d,h2⟩=>⟨d,fun i hi e=>?_⟩
      have:=List.all_eq_true.1 h2 i (List.mem_range.2 hi)
      rw [e] at this;simp at this
    · exact OldL.get h.2 m b c
section
variable {P : Program} {T : Tab} {base : Nat} {ops : Array Oper} {l : List Oper} {sl : List (Nat × V)} {hp : List (Nat × Blk)} {nx : Nat} {K : AS→Prop} {ty : TypeId} {pos : String} {af : Array Edge} {dst : Option Tmp} {g : Option (Nat × Bool)}
theorem U7 {c : Call} {f : FuncId} {j : List V} {hp0 q : List (Nat × Blk)} {k t : Nat} {vR : V} (r y : List (Nat × Nat)) (v : List V) (x : V) (a p : List (Nat × Blk)) (d : Nat) (he : K4 P T f j hp0 k vR q t) (z : Ql ops ⟨sl,hp,nx⟩ ⟨dst,.call c,ty,pos,af,g⟩ = some true) (hc : callee ⟨sl,hp,nx⟩ c = some (f,v)) (o : v.length = j.length)
    (u : Wk 0 (rho r) [] [] ⟨Kv 0 v,hp,nx⟩ ⟨Kv 0 j,hp0,k⟩) (s : Wk 0 (rho y) [] [] ⟨[(0,vR)],q,t⟩ ⟨[(0,x)],a,d⟩) (hb : q6f r y k t nx d = true) (hold : OldL r k hp a p)
    (h : OpsK P T base ops none l ((⟨sl,p,d⟩ : AS).putD dst x) K) : OpsK P T base ops none (⟨dst,.call c,ty,pos,af,g⟩::l) ⟨sl,hp,nx⟩ K:=by
  obtain ⟨st2,e2,k2⟩:=h;refine ⟨st2,.callF z rfl hc o u he s ⟨?_,?_,?_,?_,?_⟩ e2,k2⟩
  · intro i hi;simp only [q6f,Bool.and_eq_true,List.all_eq_true,List.mem_range] at hb;have:=hb.1.1 i hi;exact ⟨by simpa [Nat.blt_eq] using this.1,Nat.eq_of_beq_eq_true this.2⟩
  · intro m w;simp only [q6f,Bool.and_eq_true,List.all_eq_true,List.mem_range,Bool.or_eq_true] at hb;rcases hb.1.2 m w with n | n
    · exact .inl ⟨by simpa [Nat.blt_eq] using n.1,Nat.eq_of_beq_eq_true n.2⟩
    · exact .inr (by simpa using n)
  · intro m w;cases w
  · exact fun m b n=>hold.get m b (Zf n)
  · simp only [q6f,Bool.and_eq_true] at hb;simpa using hb.2
end
theorem Ki {P : Program} {T : Tab} {f : FuncId} {fn : Func} {c : Code} {d : List V} {hp b : List (Nat × Blk)} {nx j : Nat} {vR : V} (m : P.funcs[f]? = some fn) (hb : fn.body = some c) (a : (fn.name == "runtime.NumGoroutine") = false) (g : codeOk fn.ntmps c = true) (k : Nat.ble d.length fn.ntmps = true)
    (h : RunK P T nx [c] ⟨Kv 0 d,hp,nx⟩ (fun ex st=>(ex = .nor∨ex = .ret)∧∃ v,resV T st fn.results.toList = some v∧WkE nx ⟨[(0,v)],st.hp,st.nx⟩ ⟨[(0,vR)],b,j⟩)) : K4 P T f d hp nx vR b j:=by
  obtain ⟨ex,st',e,l,v,n,ρ,fz,ph,w⟩:=q47 h;exact .wk (.mk m hb a g (by simpa using k) e l n) w
def shlK (k : IntKind) (x y : Int) : Option Int:=if y < 0 then none else some (k.wrap (x * 2 ^ (min y.toNat k.bits)))
section
variable {P : Program} {T : Tab} {base : Nat} {ops : Array Oper} {dr : Dr} {l : List Oper} {sl : List (Nat × V)} {hp : List (Nat × Blk)} {nx : Nat} {K : AS→Prop} {ty : TypeId} {pos : String} {af : Array Edge} {t : Tmp} {g : Option (Nat × Bool)}
theorem qoy {x y : Operand} {j f : TypeId} {a b r : Int} {k k' : IntKind} (c : shlK k a b = some r) (m : Ql ops ⟨sl,hp,nx⟩ ⟨some t,.binOp .shl j x y f,ty,pos,af,g⟩ = some true) (o : AS.ev ⟨sl,hp,nx⟩ x = some (.d (.int k a))) (n : AS.ev ⟨sl,hp,nx⟩ y = some (.d (.int k' b)))
    (h : OpsK P T base ops dr l ⟨(t,.d (.int k r))::sl,hp,nx⟩ K) : OpsK P T base ops dr (⟨some t,.binOp .shl j x y f,ty,pos,af,g⟩::l) ⟨sl,hp,nx⟩ K:=by
  unfold shlK at c;split at c
  · cases c
  · rename_i p;cases c;exact Y4 m (v:=.d (.int k (k.wrap (a * 2 ^ (min b.toNat k.bits))))) (st1:=⟨sl,hp,nx⟩) (by simp [opFn,o,n,binD,q7m,p]) h (J8 rfl)
end
def Qw (n m : Nat) : Option Unit:=if n = m then some () else none
theorem Kl {n m : Nat} {u : Unit} (h : Qw n m = some u) : n = m:=by
  unfold Qw at h;split at h
  · assumption
  · cases h
def q3x (s : ByteArray) (i : Int) : Option Int:=(if 0≤i then s[i.toNat]? else none).map fun b=>(b.toNat : Int)
theorem qos {P : Program} {T : Tab} {base : Nat} {ops : Array Oper} {dr : Dr} {l : List Oper} {sl : List (Nat × V)} {hp : List (Nat × Blk)} {nx : Nat} {K : AS→Prop} {ty : TypeId} {pos : String} {af : Array Edge} {t : Tmp} {g : Option (Nat × Bool)} {x y : Operand} {a : TypeId} {i : TI} {k : IntKind} {n v : Int} (s : ByteArray) (c : q3x s n = some v) (f : Ql ops ⟨sl,hp,nx⟩ ⟨some t,.index a x y,ty,pos,af,g⟩ = some true) (p : T a = some i)
    (o : AS.ev ⟨sl,hp,nx⟩ x = some (.d (.str s))) (j : AS.ev ⟨sl,hp,nx⟩ y = some (.d (.int k n))) (m : i.kind = .str)
    (h : OpsK P T base ops dr l ⟨(t,.d (.int .u8 v))::sl,hp,nx⟩ K) : OpsK P T base ops dr (⟨some t,.index a x y,ty,pos,af,g⟩::l) ⟨sl,hp,nx⟩ K:=by
  unfold q3x at c;rw [Kt] at c;obtain ⟨b,hb,rfl⟩:=c;refine Y4 f (v:=.d (.int .u8 b.toNat)) (st1:=⟨sl,hp,nx⟩) ?_ h (J8 rfl);simp only [opFn,p,o,j,m,hb,Option.map_some]
open Classical in
noncomputable def lim {α : Type} (f : Nat→Option α) : Option α:=if h : ∃ r n,f n = some r then some h.choose else none
theorem qcb {α : Type} {f : Nat→Option α} {r : α} (h : lim f = some r) : ∃ n,f n = some r:=by
  unfold lim at h;split at h
  · rename_i a;cases h;exact a.choose_spec
  · cases h
theorem qnv {α : Type} {f : Nat→Option α} {n : Nat} {r : α} (h : f n = some r) : ∃ a,lim f = some a:=by
  unfold lim;rw [dif_pos ⟨r,n,h⟩];exact ⟨_,rfl⟩
theorem q14 {P : Program} {T : Tab} {base : Nat} {c : Code} {cs : List Code} {st : AS} {K : Ex→AS→Prop} (h : RunK P T base (c::.loop c::cs) st K) : RunK P T base (.loop c::cs) st K:=by
  obtain ⟨ex,st1,a,b⟩:=h
  cases ex with
  | nor=>
    obtain ⟨d,st2,g,f⟩:=b;exact ⟨d,st2,.loopN a g,f⟩
  | exit i=>exact ⟨_,_,.loopX a qb,b⟩
  | ret=>exact ⟨_,_,.loopX a qb,b⟩
def idxW {α : Type} (xs : List α) (w : Nat × Nat) (k : Int) : Option α:=if 0≤k∧k < w.2 then xs[w.1 + k.toNat]? else none
theorem qc7 {α : Type} {xs : List α} {w : Nat × Nat} {k : Int} {v : α} (h : idxW xs w k = some v) : idx xs ((w.1 : Int) + k) = some v:=by
  unfold idxW at h;split at h
  · rename_i a;unfold idx;rw [qp q6];rw [show ((w.1 : Int) + k).toNat = w.1 + k.toNat by omega];exact h
  · cases h
def q2f (n : Nat) (w : Nat × Nat) : Option Unit:=if w.1 + w.2≤n then some () else none
theorem qk6 {n : Nat} {w : Nat × Nat} {u : Unit} (h : q2f n w = some u) : w.1 + w.2≤n:=by
  unfold q2f at h;split at h
  · assumption
  · cases h
def clrw {α : Type} (xs : List α) (w : Nat × Nat) (z : α) : List α:=splice xs w.1 (List.replicate w.2 z)
theorem qf0 {α : Type} {xs : List α} {w : Nat × Nat} {z : α} (h : w.1 + w.2≤xs.length) : (clrw xs w z).length = xs.length:=by
  unfold clrw splice;simp;omega
section
variable {P : Program} {T : Tab} {base : Nat} {ops : Array Oper} {dr : Dr} {l : List Oper} {sl : List (Nat × V)} {hp : List (Nat × Blk)} {nx : Nat} {K : AS→Prop} {ty : TypeId} {pos : String} {af : Array Edge} {t : Tmp} {g : Option (Nat × Bool)}
theorem qcu {α : Type} {x y : Operand} {a : TypeId} {i : TI} {k : IntKind} {n : Int} {m es : Nat} {xs : List α} {w : Nat × Nat} {v : α} (b : idxW xs w n = some v) (f : Ql ops ⟨sl,hp,nx⟩ ⟨some t,.indexAddr a x y,ty,pos,af,g⟩ = some true) (r : T a = some i)
    (q : AS.ev ⟨sl,hp,nx⟩ x = some (.hs m es w.1 w.2)) (j : AS.ev ⟨sl,hp,nx⟩ y = some (.d (.int k n))) (o : i.kind = .slice) (p : es = i.esize)
    (h : OpsK P T base ops dr l ⟨(t,.ref m es ((w.1 : Int) + n).toNat 0)::sl,hp,nx⟩ K) : OpsK P T base ops dr (⟨some t,.indexAddr a x y,ty,pos,af,g⟩::l) ⟨sl,hp,nx⟩ K:=by
  have c : 0≤n∧n < w.2:=by
    unfold idxW at b;split at b
    · assumption
    · cases b
  refine qop f r q j o p c.1 c.2 ?_;rw [show ((w.1 : Int) + n).toNat = w.1 + n.toNat by omega] at h;exact h
theorem qon {α : Type} {x : Operand} {a : TypeId} {i : TI} {n es : Nat} {xs : List α} {enc : α→List DV} (z : α) {w : Nat × Nat} (f : w.1 + w.2≤xs.length) (b : Ql ops ⟨sl,hp,nx⟩ ⟨none,.call {callee:=.builtin .clear,args:=#[x],argTypes:=#[a]},ty,pos,af,g⟩ = some true) (o : T a = some i)
    (m : AS.ev ⟨sl,hp,nx⟩ x = some (.hs n es w.1 w.2)) (hb : find hp n = some (.dat es (xs.map enc))) (j : i.kind = .slice) (k : i.esize = es) (p : i.ezero = enc z)
    (h : OpsK P T base ops dr l ⟨sl,repl hp n (.dat es ((clrw xs w z).map enc)),nx⟩ K) (c : okO dr l.length ⟨sl,hp,nx⟩ (.call {callee:=.builtin .clear,args:=#[x],argTypes:=#[a]}) ⟨sl,repl hp n (.dat es ((clrw xs w z).map enc)),nx⟩ = true:=by rfl) :
    OpsK P T base ops dr (⟨none,.call {callee:=.builtin .clear,args:=#[x],argTypes:=#[a]},ty,pos,af,g⟩::l) ⟨sl,hp,nx⟩ K:=by
  subst k;refine Y4 b (v:=.d (.tup [])) (st1:=⟨sl,repl hp n (.dat i.esize ((clrw xs w z).map enc)),nx⟩) ?_ h c;simp only [opFn,evL,m,Ks];simp only [List.getElem?_toArray,List.getElem?_cons_zero,o];rw [qp ⟨j,by simp [Ze]⟩];simp only [J4,AS.blk,hb];rw [qp ⟨by simpa using f,trivial⟩,p];simp [clrw,splice,AS.setBlk]
end
section
variable {P : Program} {T : Tab} {base : Nat} {ops : Array Oper} {dr : Dr} {l : List Oper} {sl : List (Nat × V)} {hp : List (Nat × Blk)} {nx : Nat} {K : AS→Prop} {ty : TypeId} {pos : String} {af : Array Edge} {t : Tmp} {g : Option (Nat × Bool)}
end
end Go.Am
namespace Go.Am
open Go
theorem J {α : Sort _} {a : α} : a = a:=rfl
abbrev qk (n : Int) : DV:=.int .i64 n
abbrev q8 (n : Int) : V:=.d (.int .i64 n)
abbrev Q3 (b : Bool) : V:=.d (.bool b)
section
variable {P : Program} {T : Tab} {base : Nat} {ops : Array Oper} {dr : Dr} {l : List Oper} {sl : List (Nat × V)} {hp : List (Nat × Blk)} {nx : Nat} {K : AS→Prop} {ty : TypeId} {pos : String} {af : Array Edge} {t : Tmp} {g : Option (Nat × Bool)} {v : V}
theorem O {x : Operand} (a : (Ql ops ⟨sl,hp,nx⟩ ⟨some t,.move x,ty,pos,af,g⟩,AS.ev ⟨sl,hp,nx⟩ x) = (some true,some v))
    (h : OpsK P T base ops dr l ⟨(t,v)::sl,hp,nx⟩ K) : OpsK P T base ops dr (⟨some t,.move x,ty,pos,af,g⟩::l) ⟨sl,hp,nx⟩ K:=qcx (Prod.mk.inj a).1 (Prod.mk.inj a).2 h
theorem qa {x : Operand} (a : (Ql ops ⟨sl,hp,nx⟩ ⟨some t,.assign x,ty,pos,af,g⟩,AS.ev ⟨sl,hp,nx⟩ x) = (some true,some v))
    (h : OpsK P T base ops dr l ⟨(t,v)::sl,hp,nx⟩ K) : OpsK P T base ops dr (⟨some t,.assign x,ty,pos,af,g⟩::l) ⟨sl,hp,nx⟩ K:=qom (Prod.mk.inj a).1 (Prod.mk.inj a).2 h
theorem U {op : Op} (v : V) (a : (Ql ops ⟨sl,hp,nx⟩ ⟨some t,op,ty,pos,af,g⟩,opFn T ⟨sl,hp,nx⟩ op) = (some true,some (v,⟨sl,hp,nx⟩))) (h : OpsK P T base ops dr l ⟨(t,v)::sl,hp,nx⟩ K)
    (b : okO dr l.length ⟨sl,hp,nx⟩ (op) ⟨sl,hp,nx⟩ = true:=by rfl) : OpsK P T base ops dr (⟨some t,op,ty,pos,af,g⟩::l) ⟨sl,hp,nx⟩ K:=qp2 v (Prod.mk.inj a).1 (Prod.mk.inj a).2 h b
theorem Qz {op : Op} (n : Nat) (b : Blk) (a : (Ql ops ⟨sl,hp,nx⟩ ⟨none,op,ty,pos,af,g⟩,opFn T ⟨sl,hp,nx⟩ op) = (some true,some (.dead,⟨sl,repl hp n b,nx⟩))) (h : OpsK P T base ops dr l ⟨sl,repl hp n b,nx⟩ K) (c : okO dr l.length ⟨sl,hp,nx⟩ (op) ⟨sl,repl hp n b,nx⟩ = true:=by rfl) : OpsK P T base ops dr (⟨none,op,ty,pos,af,g⟩::l) ⟨sl,hp,nx⟩ K:=
  qp1 n b (Prod.mk.inj a).1 (Prod.mk.inj a).2 h c
theorem K3 {op : Op} (v : V) (b : Blk) (a : (Ql ops ⟨sl,hp,nx⟩ ⟨some t,op,ty,pos,af,g⟩,opFn T ⟨sl,hp,nx⟩ op) = (some true,some (v,⟨sl,(nx,b)::hp,nx + 1⟩))) (h : OpsK P T base ops dr l ⟨(t,v)::sl,(nx,b)::hp,nx + 1⟩ K) (c : okO dr l.length ⟨sl,hp,nx⟩ (op) ⟨sl,(nx,b)::hp,nx + 1⟩ = true:=by rfl) : OpsK P T base ops dr (⟨some t,op,ty,pos,af,g⟩::l) ⟨sl,hp,nx⟩ K:=
  qow v b (Prod.mk.inj a).1 (Prod.mk.inj a).2 h c
theorem qcw {α : Type} {x : Operand} {a : TypeId} {i : TI} {es : Nat} {xs : List α} {enc : α→List DV} (n : Int) (c : (xs.length : Int) = n) (b : Ql ops ⟨sl,hp,nx⟩ ⟨some t,.call {callee:=.builtin .len,args:=#[x],argTypes:=#[a]},ty,pos,af,g⟩ = some true) (k : T a = some i) (j : i.kind = .slice) (f : AS.ev ⟨sl,hp,nx⟩ x = some (.d (.sl es (xs.map enc))))
    (h : OpsK P T base ops dr l ⟨(t,.d (.int .i64 n))::sl,hp,nx⟩ K) : OpsK P T base ops dr (⟨some t,.call {callee:=.builtin .len,args:=#[x],argTypes:=#[a]},ty,pos,af,g⟩::l) ⟨sl,hp,nx⟩ K:=by
  subst c;exact qht b k j f h
theorem Qd {α : Type} {x y : Operand} {a : TypeId} {i : TI} {k : IntKind} {n : Int} {es : Nat} {xs : List α} {enc : α→List DV} {v : α} (q : idx xs n = some v)
    (b : (Ql ops ⟨sl,hp,nx⟩ ⟨some t,.indexAddr a x y,ty,pos,af,g⟩,T a,AS.ev ⟨sl,hp,nx⟩ x,AS.ev ⟨sl,hp,nx⟩ y,i.kind,es) = (some true,some i,some (.d (.sl es (xs.map enc))),some (.d (.int k n)),.slice,i.esize))
    (h : OpsK P T base ops dr l ⟨(t,.dref (enc v) 0)::sl,hp,nx⟩ K) : OpsK P T base ops dr (⟨some t,.indexAddr a x y,ty,pos,af,g⟩::l) ⟨sl,hp,nx⟩ K:=by
  simp only [Prod.mk.injEq] at b;obtain ⟨c,o,j,f,m,p⟩:=b;exact qor q c o j f m p h
theorem qr {α : Type} {x y : Operand} {a : TypeId} {i : TI} {k : IntKind} {n : Int} {m es len : Nat} {xs : List α} {v : α} (s : idx xs n = some v) (c : len = xs.length)
    (b : (Ql ops ⟨sl,hp,nx⟩ ⟨some t,.indexAddr a x y,ty,pos,af,g⟩,T a,AS.ev ⟨sl,hp,nx⟩ x,AS.ev ⟨sl,hp,nx⟩ y,i.kind,es) = (some true,some i,some (.hs m es 0 len),some (.d (.int k n)),.slice,i.esize))
    (h : OpsK P T base ops dr l ⟨(t,.ref m es n.toNat 0)::sl,hp,nx⟩ K) : OpsK P T base ops dr (⟨some t,.indexAddr a x y,ty,pos,af,g⟩::l) ⟨sl,hp,nx⟩ K:=by
  simp only [Prod.mk.injEq] at b;obtain ⟨f,q,o,j,p,r⟩:=b;exact qoq s c f q o j p r h
theorem Q2 {α : Type} {p : Operand} {a : TypeId} {i : TI} {m es j : Nat} {n : Int} {xs : List α} {enc : α→List DV} {r : List DV} {v : α} (w : V) (x : idx xs n = some v)
    (b : (Ql ops ⟨sl,hp,nx⟩ ⟨some t,.load a p,ty,pos,af,g⟩,T a,AS.ev ⟨sl,hp,nx⟩ p,find hp m,sub (enc v) j i.size,(Uz i.agg r).map V.d) = (some true,some i,some (.ref m es n.toNat j),some (.dat es (xs.map enc)),some r,some w))
    (h : OpsK P T base ops dr l ⟨(t,w)::sl,hp,nx⟩ K) (o : okF dr l.length (fp ⟨sl,hp,nx⟩ (.load a p)) = true:=by rfl) : OpsK P T base ops dr (⟨some t,.load a p,ty,pos,af,g⟩::l) ⟨sl,hp,nx⟩ K:=by
  simp only [Prod.mk.injEq] at b;obtain ⟨c,s,k,f,q,u⟩:=b;exact qou w x c s k f q u h o
theorem Qq {α : Type} {x : Operand} {a : TypeId} {i : TI} {es : Nat} {xs : List α} {enc : α→List DV}
    (b : (Ql ops ⟨sl,hp,nx⟩ ⟨some t,.call {callee:=.builtin .len,args:=#[x],argTypes:=#[a]},ty,pos,af,g⟩,T a,i.kind,AS.ev ⟨sl,hp,nx⟩ x) = (some true,some i,.slice,some (.d (.sl es (xs.map enc)))))
    (h : OpsK P T base ops dr l ⟨(t,.d (.int .i64 (xs.length : Int)))::sl,hp,nx⟩ K) : OpsK P T base ops dr (⟨some t,.call {callee:=.builtin .len,args:=#[x],argTypes:=#[a]},ty,pos,af,g⟩::l) ⟨sl,hp,nx⟩ K:=by
  simp only [Prod.mk.injEq] at b;obtain ⟨c,j,k,f⟩:=b;exact qht c j k f h
theorem Qk {c : Call} {f : FuncId} {ds : List DV} {r : DV} {a : List V} (b : Pure P T f ds r) (j : (Ql ops ⟨sl,hp,nx⟩ ⟨some t,.call c,ty,pos,af,g⟩,callee ⟨sl,hp,nx⟩ c,Kh hp a,a.all V.isD) = (some true,some (f,a),some ds,true))
    (h : OpsK P T base ops dr l ⟨(t,.d r)::sl,hp,nx⟩ K) (p : okF dr l.length (fpC a) = true:=by rfl) : OpsK P T base ops dr (⟨some t,.call c,ty,pos,af,g⟩::l) ⟨sl,hp,nx⟩ K:=by
  simp only [Prod.mk.injEq] at j;obtain ⟨k,n,o,m⟩:=j;exact qcy a b k n o (.inl m) h p
theorem Qh {st : AS} {b : List ResultVar} {r : DV} (v : V) (a : (resV T st b,toD st.hp 8 v) = (some v,some r)) : (Ex.ret = .nor∨Ex.ret = .ret)∧∃ v c,resV T st b = some v∧toD st.hp 8 v = some c∧DLe c r:=by
  simp only [Prod.mk.injEq] at a;exact ⟨.inr rfl,v,r,a.1,a.2,.refl _⟩
theorem qd {id : Nat} {ops : Array Oper} {b : Code} {cs : List Code} {st : AS} {K : Ex→AS→Prop} (h : OpsK P T base ops none ops.toList st (fun st'=>RunK P T base (b::cs) st' K)) : RunK P T base (.seq (.region id ops false) b::cs) st K:=qe (qx h)
theorem qy {a ops : Array Oper} {id : Nat} {b : Code} {cs : List Code} {st : AS} {K : Ex→AS→Prop} (h : OpsK P T base ops none ops.toList st (fun st'=>RunK P T base (b::cs) st' K)) : OpsK P T base a dr [] st (fun st'=>RunK P T base (.seq (.region id ops false) b::cs) st' K):=q9 (qe (qx h))
theorem qz {a : Array Oper} {cs : List Code} {st : AS} {K : Ex→AS→Prop} (h : K .ret st) : OpsK P T base a dr [] st (fun st'=>RunK P T base (.ret::cs) st' K):=q9 (q3e h)
theorem qu {a : Array Oper} {st : AS} {K : Ex→AS→Prop} (h : K .nor st) : OpsK P T base a dr [] st (fun st'=>RunK P T base [] st' K):=q9 (Qg h)
theorem K7 {dst : Option Tmp} {c : Call} {f : FuncId} {m : List V} {hp0 o : List (Nat × Blk)} {k s : Nat} {vR : V} (j p : List (Nat × Nat)) (r : List V) (t : V) (n : Nat) (a : List (Nat × Blk)) (b : Nat) (w : K4 P T f m hp0 k vR o s)
    (h : OpsK P T base ops none l ((⟨sl,a,b⟩ : AS).putD dst t) K)
    (u : Ql ops ⟨sl,hp,nx⟩ ⟨dst,.call c,ty,pos,af,g⟩ = some true:=by exact rfl) (z : callee ⟨sl,hp,nx⟩ c = some (f,r):=by exact rfl) (q : r.length = m.length:=by exact rfl)
    (y : wkOk 0 j [] [] hp0 k = true:=by exact rfl)
    (s1 : WkL ⟨Kv 0 r,hp,nx⟩ (rho j) [] [] k (Kv 0 m):=by
      repeat' first | exact trivial | refine And.intro (Exists.intro _ (And.intro rfl ?_)) ?_ | exact Wv.d (DLe.refl _) | exact Wv.ref rfl Q0 (ltd rfl) | exact Wv.mp rfl Q0 (ltd rfl) | exact Wv.hs rfl Q0 (ltd rfl) | exact Wv.d (DLe.nil _) | refine qas ?_ | refine qdz ?_ | refine q41 ?_ | refine WvL.cons ?_ ?_ | exact WvL.nil | exact Wv.dref _ _ | exact Wv.yld rfl Q0 (ltd rfl))
    (b1 : WkH ⟨Kv 0 r,hp,nx⟩ (rho j) [] [] k hp0:=by
      repeat' first | exact trivial | refine And.intro (And.intro (ltd rfl) (Or.inr (And.intro Q0 (Exists.intro _ (And.intro rfl ?_))))) ?_ | exact Wb.dat _ _ | exact Wb.mp _ | refine Ud ?_ | refine qdw ?_ | refine WvC.cons ?_ rfl ?_ | exact WvC.nil | exact Wv.d (DLe.refl _) | exact Wv.ref rfl Q0 (ltd rfl) | exact Wv.mp rfl Q0 (ltd rfl) | exact Wv.hs rfl Q0 (ltd rfl) | exact Wv.d (DLe.nil _))
    (o3 : wkOk 0 p [] [] (a.take n) b = true:=by exact rfl)
    (x : WkL ⟨[(0,vR)],o,s⟩ (rho p) [] [] b [(0,t)]:=by
      repeat' first | exact trivial | refine And.intro (Exists.intro _ (And.intro rfl ?_)) ?_ | exact Wv.d (DLe.refl _) | exact Wv.ref rfl Q0 (ltd rfl) | exact Wv.mp rfl Q0 (ltd rfl) | exact Wv.hs rfl Q0 (ltd rfl) | exact Wv.d (DLe.nil _) | refine qas ?_ | refine qdz ?_ | refine q41 ?_ | refine WvL.cons ?_ ?_ | exact WvL.nil | exact Wv.dref _ _ | exact Wv.yld rfl Q0 (ltd rfl))
    (v : WkH ⟨[(0,vR)],o,s⟩ (rho p) [] [] b (a.take n):=by
      repeat' first | exact trivial | refine And.intro (And.intro (ltd rfl) (Or.inr (And.intro Q0 (Exists.intro _ (And.intro rfl ?_))))) ?_ | exact Wb.dat _ _ | exact Wb.mp _ | refine Ud ?_ | refine qdw ?_ | refine WvC.cons ?_ rfl ?_ | exact WvC.nil | exact Wv.d (DLe.refl _) | exact Wv.ref rfl Q0 (ltd rfl) | exact Wv.mp rfl Q0 (ltd rfl) | exact Wv.hs rfl Q0 (ltd rfl) | exact Wv.d (DLe.nil _))
    (hb : q6f j p k s nx b = true:=by exact rfl)
    (hold : OldL j k hp (a.take n) a:=by repeat' first | exact trivial | refine And.intro (Or.inl rfl) ?_ | refine And.intro (Or.inr (And.intro rfl rfl)) ?_) :
    OpsK P T base ops none (⟨dst,.call c,ty,pos,af,g⟩::l) ⟨sl,hp,nx⟩ K:=
  U7 j p r t (a.take n) a b w u z q (Yi j [] [] y s1 b1) (Yi p [] [] o3 x v) hb hold h
end
inductive WvR (st : AS) (ρ : Nat→Nat) (fz ph : List Nat) (nx : Nat) : List (List V)→List (List V)→Prop
  | nil : WvR st ρ fz ph nx [] []
  | cons {c d : List V} {cs ds : List (List V)} : WvC st ρ fz ph nx c d→WvR st ρ fz ph nx cs ds→WvR st ρ fz ph nx (c::cs) (d::ds)
theorem WvR.len {st : AS} {ρ : Nat→Nat} {fz ph : List Nat} {nx : Nat} {cs ds : List (List V)} (h : WvR st ρ fz ph nx cs ds) : cs.length = ds.length:=by
  induction h with
  | nil=>rfl
  | cons _ _ ih=>simp [ih]
theorem WvR.get {st : AS} {ρ : Nat→Nat} {fz ph : List Nat} {nx : Nat} {cs ds : List (List V)} (h : WvR st ρ fz ph nx cs ds) : ∀ (j : Nat) (c d : List V),cs[j]? = some c→ds[j]? = some d→WvC st ρ fz ph nx c d:=by
  induction h with
  | nil=>intro i x y h;simp at h
  | cons h1 _ ih=>
    intro i x y b a
    cases i with
    | zero=>simp at b a;subst b;subst a;exact h1
    | succ i=>exact ih i x y (by simpa using b) (by simpa using a)
theorem qxd {st : AS} {ρ : Nat→Nat} {fz ph : List Nat} {nx es : Nat} {cs ds : List (List V)} (h : WvR st ρ fz ph nx cs ds) : Wb st ρ fz ph nx (.cel es cs) (.cel es ds):=
  .cel h.len fun i x y b a=>⟨(h.get i x y b a).len,(h.get i x y b a).get⟩
theorem qxe {st : AS} {ρ : Nat→Nat} {fz ph : List Nat} {nx es : Nat} {cs : List (List DV)} {ds : List (List V)} (h : WvR st ρ fz ph nx (cs.map (·.map .d)) ds) : Wb st ρ fz ph nx (.dat es cs) (.cel es ds):=by
  refine .datcel (by simpa using h.len) fun i x y f b=>?_;have a:=h.get i (x.map .d) y (by simp [f]) b;refine ⟨by simpa using a.len,fun j c d g hd=>a.get j (.d c) d (by simp [g]) hd⟩
theorem wkA {base : Nat} {st st' : AS} (l : List (Nat × Nat)) (fz ph : List Nat) (a : wkOk base l fz ph st'.hp st'.nx = true:=by exact rfl)
    (hs : WkL st (rho l) fz ph st'.nx st'.sl:=by
      repeat' first | exact trivial | refine And.intro (Exists.intro _ (And.intro rfl ?_)) ?_ | exact Wv.d (DLe.refl _) | exact Wv.ref rfl Q0 (ltd rfl) | exact Wv.mp rfl Q0 (ltd rfl) | exact Wv.hs rfl Q0 (ltd rfl) | exact Wv.d (DLe.nil _) | exact Wv.nil Q0 (ltd rfl) | exact qk9 rfl rfl Q0 | refine qas ?_ | refine qxk ?_ | refine qdz ?_ | refine qxl ?_ | refine q41 ?_ | refine WvL.cons ?_ ?_ | exact WvL.nil | exact Wv.dref _ _ | exact Wv.yld rfl Q0 (ltd rfl))
    (b : WkH st (rho l) fz ph st'.nx st'.hp:=by
      repeat' first | exact trivial | refine And.intro (And.intro (ltd rfl) (Or.inr (And.intro Q0 (Exists.intro _ (And.intro rfl ?_))))) ?_ | refine And.intro (And.intro (ltd rfl) (Or.inl (And.intro Q0 (Exists.intro _ (And.intro Q0 rfl))))) ?_ | exact Wb.dat _ _ | exact Wb.mp _ | refine Ud ?_ | refine qdw ?_ | refine qxd ?_ | refine qxe ?_ | refine WvR.cons ?_ ?_ | exact WvR.nil | refine qxf ?_ | refine WvS.cons rfl ?_ ?_ | exact WvS.nil | refine WvC.cons ?_ rfl ?_ | exact WvC.nil | exact Wv.d (DLe.refl _) | exact Wv.ref rfl Q0 (ltd rfl) | exact Wv.mp rfl Q0 (ltd rfl) | exact Wv.hs rfl Q0 (ltd rfl) | exact Wv.d (DLe.nil _) | exact Wv.nil Q0 (ltd rfl) | exact qk9 rfl rfl Q0 | refine q41 ?_ | refine qas ?_ | refine WvL.cons ?_ ?_ | exact WvL.nil | exact Wv.yld rfl Q0 (ltd rfl)) : WkE base st st':=wkE l fz ph a hs b
theorem qi {st : AS} {ρ : Nat→Nat} {fz ph : List Nat} {nx t : Nat} {x : DV} (h : st.get t = some (.d x)) : ∃ v,st.get t = some v∧Wv st ρ fz ph nx v (.d x):=⟨_,h,.d (.refl _)⟩
theorem Qn {st : AS} {ρ : Nat→Nat} {fz ph : List Nat} {nx n es : Nat} {xs : List (List DV)} (a : Nat.blt n nx = true) (d : st.blk (ρ n) = some (.dat es xs)) (c : n ∉ ph:=by decide) :
    n < nx∧((n∈ph∧∃ e,e≠0∧(Blk.dat es xs) = .dat e [])∨(n ∉ ph∧∃ b,st.blk (ρ n) = some b∧Wb st ρ fz ph nx b (.dat es xs))):=⟨ltd a,.inr ⟨c,_,d,.dat _ _⟩⟩
abbrev q0 : Option (List Nat) × List Nat:=(some [],[])
abbrev qt (n : Nat) : Option (List Nat) × List Nat:=(some [n],[])
abbrev Qo (n : Nat) : Option (List Nat) × List Nat:=(some [n],[n])
end Go.Am
namespace Go.Am
open Go
inductive DLeR : List (List DV)→List (List DV)→Prop
  | nil : DLeR [] []
  | cons {x y : List DV} {xs ys : List (List DV)} : DLeL x y→DLeR xs ys→DLeR (x::xs) (y::ys)
structure Uf (ag : Bool) (ks : List (Option IntKind)) {α : Type} [DecidableEq α] (ek : α→DV) : Prop where
  agg : ∀ k,Z7 (ek k) = ag
  len : ∀ k,(cellsD (ek k)).length = ks.length
  eq : ∀ a b,Ka ks (cellsD (ek a)) (cellsD (ek b)) = some (decide (a = b))
theorem q6v {k : IntKind} : Uf false [some k] (fun n : Int=>DV.int k n):=
  ⟨fun _=>rfl,fun _=>rfl,fun a b=>by simp [cellsD,Ka,q1e];rfl⟩
section
variable {α β : Type} [DecidableEq α]
def Y2 (z : β) (k : α) : List (α × β)→β
  | []=>z
  | (a,v)::r=>if k = a then v else Y2 z k r
def qcm (k : α) : List (α × β)→Bool
  | []=>false
  | (a,_)::r=>if k = a then true else qcm k r
def Yy (k : α) (v : β) : List (α × β)→List (α × β)
  | []=>[(k,v)]
  | (a,w)::r=>if k = a then (k,v)::r else (a,w)::Yy k v r
def Yg (k : α) : List (α × β)→List (α × β)
  | []=>[]
  | (a,w)::r=>if k = a then r else (a,w)::Yg k r
abbrev mrow (ek : α→DV) (ev : β→DV) (es : List (α × β)) : List (DV × DV):=es.map fun e=>(ek e.1,ev e.2)
variable {ag : Bool} {ks : List (Option IntKind)} {ek : α→DV} {ev : β→DV}
def U6 (k : α) : List (α × β)→Option Nat
  | []=>none
  | (a,_)::r=>if k = a then some 0 else (U6 k r).map (· + 1)
theorem q9z (b : Uf ag ks ek) (k : α) : ∀ es : List (α × β),Yx ag ks (ek k) (mrow ek ev es) = some (U6 k es)
  | []=>rfl
  | (a,v)::r=>by
    have c:=q9z b k r
    simp only [mrow,List.map_cons,Yx,b.agg,and_self,if_true,b.eq,U6] at c ⊢
    by_cases h : k = a
    · simp [h]
    · simp only [h,decide_false,if_false,c]
      cases U6 k r <;> rfl
theorem qc9 (a : Uf ag ks ek) (k : α) : Jk ag ks (ek k) = true:=by
  simp [Jk,a.agg,a.len]
theorem qo9 (b : Uf ag ks ek) (z : β) (k : α) (es : List (α × β)) : mget ag ks (ev z) (ek k) (mrow ek ev es) = some (ev (Y2 z k es),qcm k es):=by
  unfold mget;rw [q9z b]
  induction es with
  | nil=>rfl
  | cons e r ih=>
    obtain ⟨a,v⟩:=e;simp only [U6,Y2,qcm];by_cases h : k = a
    · simp [h]
    · simp only [h,if_false]
      cases hp : U6 k r with
      | none=>rw [hp] at ih;simpa using ih
      | some j=>rw [hp] at ih;simpa using ih
theorem qoc (b : Uf ag ks ek) (k : α) (v : β) (es : List (α × β)) : mput ag ks (ek k) (ev v) (mrow ek ev es) = some (mrow ek ev (Yy k v es)):=by
  unfold mput;rw [q9z b]
  induction es with
  | nil=>rfl
  | cons e r ih=>
    obtain ⟨a,w⟩:=e;simp only [U6,Yy];by_cases h : k = a
    · simp [h]
    · simp only [h,if_false]
      cases hp : U6 k r with
      | none=>rw [hp] at ih;simp at ih ⊢;exact ih
      | some j=>rw [hp] at ih;simp at ih ⊢;exact ih
theorem qo8 (b : Uf ag ks ek) (k : α) (es : List (α × β)) : mdel ag ks (ek k) (mrow ek ev es) = some (mrow ek ev (Yg k es)):=by
  unfold mdel;rw [q9z b]
  induction es with
  | nil=>rfl
  | cons e r ih=>
    obtain ⟨a,w⟩:=e;simp only [U6,Yg];by_cases h : k = a
    · simp [h]
    · simp only [h,if_false]
      cases hp : U6 k r with
      | none=>rw [hp] at ih;simp at ih ⊢;exact ih
      | some j=>rw [hp] at ih;simp at ih ⊢;exact ih
end
section
variable {P : Program} {T : Tab} {base : Nat} {ops : Array Oper} {dr : Dr} {l : List Oper} {sl : List (Nat × V)} {hp : List (Nat × Blk)} {nx : Nat} {K : AS→Prop} {ty : TypeId} {pos : String} {af : Array Edge} {t : Tmp} {g : Option (Nat × Bool)}
variable {α β : Type} [DecidableEq α] {ek : α→DV} {ev : β→DV} {mt : TypeId} {i : TI} {ks : List (Option IntKind)} {n : Nat} {es : List (α × β)}
theorem qhs {x a : Operand} (c : Uf i.eagg ks ek) (z : β) (k : α) (f : Ql ops ⟨sl,hp,nx⟩ ⟨some t,.lookup mt x a false,ty,pos,af,g⟩ = some true) (p : T mt = some i) (b : i.keys = some ks) (q : i.ezero = [ev z])
    (j : AS.ev ⟨sl,hp,nx⟩ x = some (.mp n)) (o : AS.ev ⟨sl,hp,nx⟩ a = some (.d (ek k))) (hb : find hp n = some (.mp (mrow ek ev es)))
    (h : OpsK P T base ops dr l ⟨(t,.d (ev (Y2 z k es)))::sl,hp,nx⟩ K) (m : okO dr l.length ⟨sl,hp,nx⟩ (.lookup mt x a false) ⟨sl,hp,nx⟩ = true:=by rfl) : OpsK P T base ops dr (⟨some t,.lookup mt x a false,ty,pos,af,g⟩::l) ⟨sl,hp,nx⟩ K:=by
  refine Y4 f (v:=.d (ev (Y2 z k es))) (st1:=⟨sl,hp,nx⟩) ?_ h m;simp only [opFn,p,j,o,b,AS.blk,hb,q,qc9 c,if_true,qo9 c,Option.map_some,qv]
theorem qov {m a y : Operand} (c : Uf i.eagg ks ek) (k : α) (v : β) (f : Ql ops ⟨sl,hp,nx⟩ ⟨none,.mapUpdate mt m a y,ty,pos,af,g⟩ = some true) (s : T mt = some i) (b : i.keys = some ks)
    (p : AS.ev ⟨sl,hp,nx⟩ m = some (.mp n)) (r : AS.ev ⟨sl,hp,nx⟩ a = some (.d (ek k))) (j : AS.ev ⟨sl,hp,nx⟩ y = some (.d (ev v))) (hb : find hp n = some (.mp (mrow ek ev es))) (o : Y6 (ev v) = true)
    (h : OpsK P T base ops dr l ⟨sl,repl hp n (.mp (mrow ek ev (Yy k v es))),nx⟩ K) (q : okO dr l.length ⟨sl,hp,nx⟩ (.mapUpdate mt m a y) ⟨sl,repl hp n (.mp (mrow ek ev (Yy k v es))),nx⟩ = true:=by rfl) : OpsK P T base ops dr (⟨none,.mapUpdate mt m a y,ty,pos,af,g⟩::l) ⟨sl,hp,nx⟩ K:=by
  refine Y4 f (v:=.dead) (st1:=⟨sl,repl hp n (.mp (mrow ek ev (Yy k v es))),nx⟩) ?_ h q;simp only [opFn,s,p,r,j,b,AS.blk,hb,qc9 c,o,and_self,if_true,qoc c,Option.map_some];rfl
theorem qhp {m a : Operand} {c : TypeId} (f : Uf i.eagg ks ek) (k : α) (j : Ql ops ⟨sl,hp,nx⟩ ⟨none,.call {callee:=.builtin .delete,args:=#[m,a],argTypes:=#[mt,c]},ty,pos,af,g⟩ = some true) (r : T mt = some i) (b : i.keys = some ks)
    (o : AS.ev ⟨sl,hp,nx⟩ m = some (.mp n)) (q : AS.ev ⟨sl,hp,nx⟩ a = some (.d (ek k))) (hb : find hp n = some (.mp (mrow ek ev es)))
    (h : OpsK P T base ops dr l ⟨sl,repl hp n (.mp (mrow ek ev (Yg k es))),nx⟩ K) (p : okO dr l.length ⟨sl,hp,nx⟩ (.call {callee:=.builtin .delete,args:=#[m,a],argTypes:=#[mt,c]}) ⟨sl,repl hp n (.mp (mrow ek ev (Yg k es))),nx⟩ = true:=by rfl) :
    OpsK P T base ops dr (⟨none,.call {callee:=.builtin .delete,args:=#[m,a],argTypes:=#[mt,c]},ty,pos,af,g⟩::l) ⟨sl,hp,nx⟩ K:=by
  refine Y4 j (v:=.d (.tup [])) (st1:=⟨sl,repl hp n (.mp (mrow ek ev (Yg k es))),nx⟩) ?_ h p;simp only [opFn,evL,o,q,Ks];simp only [List.getElem?_toArray,List.getElem?_cons_zero,r,AS.blk,hb,b,qc9 f,if_true,qo8 f,Option.map_some];rfl
end
end Go.Am
