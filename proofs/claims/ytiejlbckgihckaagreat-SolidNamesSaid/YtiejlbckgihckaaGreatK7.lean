/- Lf3 Lf4 Lf5 Lf6 -/
import Derived.Test.YtiejlbckgihckaaGreatK6
namespace Go.Am
open Go
theorem RunK.toEv {P : Program} {T : Tab} {base : Nat} {c : Code} {st : AS} {K : Ex→AS→Prop} (h : RunK P T base [c] st K) : ∃ ex st',Kn P T base c st ex st'∧K ex st':=q4m h
section
variable {P : Program} {T : Tab} {base : Nat} {ops : Array Oper} {l : List Oper} {sl : List (Nat × V)} {hp : List (Nat × Blk)} {nx : Nat} {K : AS→Prop} {ty : TypeId} {pos : String} {af : Array Edge} {dst : Option Tmp} {g : Option (Nat × Bool)}
theorem q5a {β : Type} {c : Call} {f : FuncId} {fn : Func} {j : Code} (d : List V) (E : β→Prop) (S : β→AS) (p : Qn ops ⟨sl,hp,nx⟩ ⟨dst,.call c,ty,pos,af,g⟩ = some true) (s : callee ⟨sl,hp,nx⟩ c = some (f,d))
    (y : P.funcs[f]? = some fn) (hb : fn.body = some j) (a : (fn.name == "runtime.NumGoroutine") = false) (k : codeOk fn.ntmps j = true) (x : Nat.ble d.length fn.ntmps = true)
    (h : RunK P T nx [j] ⟨Ky 0 d,hp,nx⟩ (fun ex st'=>(ex = .nor∨ex = .ret)∧∃ v,resV T st' fn.results.toList = some v∧∃ b,E b∧WkE base ((⟨sl,st'.hp,st'.nx⟩ : AS).putD dst v) (S b)))
    (u : ∀ b,E b→OpsK P T base ops none l (S b) K) : OpsK P T base ops none (⟨dst,.call c,ty,pos,af,g⟩::l) ⟨sl,hp,nx⟩ K:=by
  obtain ⟨ex,st',e,t,v,q,b,m,n⟩:=h.toEv;obtain ⟨st2,o,r⟩:=u b m;obtain ⟨ρ,fz,ph,w⟩:=n;exact ⟨st2,.callS p rfl s (.mk y hb a k (by simpa using x) e t q) (.wk w o),r⟩
theorem q7x {β : Type} {c : Call} {gf : Operand} {n : Nat} {y : List V} {s : List (Nat × V)} {f : List Tmp} {assign body A B : Code} (E : β→Prop) (S : β→AS) (hA : assign = A) (hB : body = B) (hg : Qn ops ⟨sl,hp,nx⟩ ⟨dst,.call c,ty,pos,af,g⟩ = some true)
    (m : c.callee = .value gf) (z : AS.ev ⟨sl,hp,nx⟩ gf = some (.yld n)) (v : evL (AS.ev ⟨sl,hp,nx⟩) c.args.toList = some y) (hb : find hp n = some (.loop s f A B .ready none)) (hl : f.length = y.length)
    (h : RunK P T nx [assign] ⟨q1t s f y,hp,nx⟩ (fun ex st1=>ex = .nor∧∃ u,find st1.hp n = some (.loop u f A B .ready none)∧
      RunK P T nx [body] (st1.setBlk n (.loop u f A B .busy none)) (fun ex st2=>∃ p,find st2.hp n = some (.loop p f A B .busy none)∧match ex with
        | .nor=>∃ b,E b∧WkE base ((⟨sl,repl st2.hp n (.loop p f A B .ready none),st2.nx⟩ : AS).putD dst (.d (.bool true))) (S b)
        | ex=>OpsK P T base ops none l ((⟨sl,repl st2.hp n (.loop p f A B .done ex.code),st2.nx⟩ : AS).putD dst (.d (.bool false))) K)))
    (hr : ∀ b,E b→OpsK P T base ops none l (S b) K) : OpsK P T base ops none (⟨dst,.call c,ty,pos,af,g⟩::l) ⟨sl,hp,nx⟩ K:=by
  subst hA hB;obtain ⟨ag,st1,e1,rfl,u,q,k⟩:=h.toEv;obtain ⟨ex,st2,e2,p,r,x⟩:=k.toEv
  have key : ∀ a,Kj P T base ops none l ((⟨sl,repl st2.hp n (.loop p f assign body (if ex = .nor then .ready else .done) ex.code),st2.nx⟩ : AS).putD dst (.d (.bool (decide (ex = .nor))))) a→Kj P T base ops none (⟨dst,.call c,ty,pos,af,g⟩::l) ⟨sl,hp,nx⟩ a:=
    fun a h3=>.callY hg rfl m z v hb hl e1 q e2 r h3
  cases ex with
  | nor=>
    obtain ⟨b,t,ρ,fz,ph,w⟩:=x;obtain ⟨a,o,j⟩:=hr b t;exact ⟨a,key a (.wk w o),j⟩
  | exit i=>
    obtain ⟨a,o,j⟩:=x;exact ⟨a,key a o,j⟩
  | ret=>
    obtain ⟨a,o,j⟩:=x;exact ⟨a,key a o,j⟩
end
section
variable {P : Program} {T : Tab} {base : Nat} {cs : List Code} {sl : List (Nat × V)} {hp : List (Nat × Blk)} {nx : Nat} {K : Ex→AS→Prop}
def qc7 (P : Program) (T : Tab) (base : Nat) (cs : List Code) (K : Ex→AS→Prop) : Ex→AS→Prop:=q9r (fun st'=>RunK P T base cs st' K) K
theorem q8a {m : Operand} {n : Array Tmp} {assign body : Code} {f : FuncId} {fn : Func} {j : Code} (a : List V)
    (r : AS.ev ⟨sl,hp,nx⟩ m = some (.fn f a)∨∃ ds,AS.ev ⟨sl,hp,nx⟩ m = some (.d (.fn f ds))∧a = ds.map .d)
    (o : P.funcs[f]? = some fn) (hb : fn.body = some j) (c : (fn.name == "runtime.NumGoroutine") = false) (k : codeOk fn.ntmps j = true) (w : Nat.ble (a.length + 1) fn.ntmps = true)
    (h : ∀ A B,assign = A→body = B→RunK P T (nx + 1) [j] ⟨Ky 0 (.yld nx::a),(nx,.loop sl n.toList A B .ready none)::hp,nx + 1⟩ (fun g b=>(g = .nor∨g = .ret)∧∃ v,resV T b fn.results.toList = some v∧
      ∃ (s : List (Nat × V)) (l : LoopState) (ex : Ex),find b.hp nx = some (.loop s n.toList A B l ex.code)∧l≠.busy∧qc7 P T base cs K ex ⟨sl,repl b.hp nx .dead,b.nx⟩)) :
    RunK P T base (.rangeFunc m n assign body::cs) ⟨sl,hp,nx⟩ K:=by
  obtain ⟨g,b,e,u,v,t,s,l,ex,q,p,x⟩:=(h assign body rfl rfl).toEv;exact ⟨ex,_,.rangeF (pe:=ex.code) r (.mk o hb c k (by simpa using w) e u t) q p rfl,x⟩
theorem q7a {st : AS} (h : RunK P T base cs st K) : qc7 P T base cs K .nor st:=h
theorem qc8 {st : AS} (h : K .ret st) : qc7 P T base cs K .ret st:=h
end
inductive WvS (st : AS) (ρ : Nat→Nat) (fz ph : List Nat) (nx : Nat) : List (Nat × V)→List (Nat × V)→Prop
  | nil {s : List (Nat × V)} : WvS st ρ fz ph nx s []
  | cons {s s' : List (Nat × V)} {t : Nat} {v v' : V} : find s t = some v→Wv st ρ fz ph nx v v'→WvS st ρ fz ph nx s s'→WvS st ρ fz ph nx s ((t,v')::s')
theorem q10s {st : AS} {ρ : Nat→Nat} {fz ph : List Nat} {nx : Nat} {s b : List (Nat × V)} {c : List Tmp} {as f : Code} {d : LoopState} {pe : Option Code} (h : WvS st ρ fz ph nx s b) : Wb st ρ fz ph nx (.loop s c as f d pe) (.loop b c as f d pe):=by
  refine .loop fun t g a=>?_
  induction h with
  | nil=>simp [find] at a
  | @cons b t' v v'' h1 h2 _ ih=>
    simp only [find] at a
    cases hb : Nat.beq t' t with
    | true=>rw [hb] at a;cases a;obtain rfl:=Nat.eq_of_beq_eq_true hb;exact ⟨v,h1,h2⟩
    | false=>rw [hb] at a;exact ih a
theorem qzy {α : Type} {enc : α→List DV} {es : Nat} (a : ∀ x,(enc x).length = es) {xs : List α} {k : Nat} {v : α} (h : xs[k]? = some v) : sub (xs.flatMap enc) (k * es) es = some (enc v):=by
  induction xs generalizing k with
  | nil=>simp at h
  | cons x xs ih=>
    cases k with
    | zero=>
      simp at h;subst h;have:=a x;simp [sub,List.flatMap_cons,this]
    | succ k=>
      have f : xs[k]? = some v:=by simpa using h
      have:=ih f;unfold sub at this ⊢;have c:=a x;have d : (k + 1) * es = (enc x).length + k * es:=by rw [Nat.succ_mul,c];omega
      rw [List.flatMap_cons,d];split at this
      · rename_i b;rw [ql (by rw [List.length_append];omega),← List.drop_drop,List.drop_left];exact this
      · cases this
theorem qzn {α : Type} {enc : α→List DV} {es : Nat} (a : ∀ x,(enc x).length = es) {xs : List α} {k : Nat} {v : α} (h : k < xs.length) : splice (xs.flatMap enc) (k * es) (enc v) = (xs.set k v).flatMap enc:=by
  induction xs generalizing k with
  | nil=>simp at h
  | cons x xs ih=>
    have b:=a x;have d:=a v
    cases k with
    | zero=>
      simp only [splice,Nat.zero_mul,List.take_zero,List.nil_append,Nat.zero_add,List.flatMap_cons,List.set_cons_zero];rw [d,← b,List.drop_left]
    | succ k=>
      have:=ih (k:=k) (by simpa using h);simp only [splice] at this ⊢;have c : (k + 1) * es = (enc x).length + k * es:=by rw [Nat.succ_mul,b];omega
      rw [List.flatMap_cons,List.set_cons_succ,List.flatMap_cons,c,← this];rw [List.take_length_add_append,show (enc x).length + k * es + (enc v).length = (enc x).length + (k * es + (enc v).length) by omega,← List.drop_drop,List.drop_left];simp [List.append_assoc]
theorem qpu {α : Type} {enc : α→List DV} {es : Nat} (a : ∀ x,(enc x).length = es) (xs : List α) : (xs.flatMap enc).length = xs.length * es:=by
  induction xs with
  | nil=>simp
  | cons x xs ih=>rw [List.flatMap_cons,List.length_append,a,ih,List.length_cons,Nat.succ_mul];omega
def idxA {α : Type} (n : Nat) (xs : List α) (i : Int) : Option α:=if 0≤i∧i < n then xs[i.toNat]? else none
def andI (k : IntKind) (x y : Int) : Int:=k.wrap (BitVec.ofInt k.bits x &&& BitVec.ofInt k.bits y).toNat
def xorI (k : IntKind) (x y : Int) : Int:=k.wrap (BitVec.ofInt k.bits x ^^^ BitVec.ofInt k.bits y).toNat
section
variable {P : Program} {T : Tab} {base : Nat} {ops : Array Oper} {dr : Dr} {l : List Oper} {sl : List (Nat × V)} {hp : List (Nat × Blk)} {nx : Nat} {K : AS→Prop} {ty : TypeId} {pos : String} {af : Array Edge} {t : Tmp} {g : Option (Nat × Bool)}
theorem qdp {α : Type} {n : Nat} {xs : List α} {i : Int} {v : α} (h : idxA n xs i = some v) : 0≤i∧i < n∧xs[i.toNat]? = some v:=by
  unfold idxA at h;split at h
  · rename_i a;exact ⟨a.1,a.2,h⟩
  · cases h
theorem qas {α : Type} {x y : Operand} {a : TypeId} {i : TI} {k : IntKind} {n : Int} {m es : Nat} {v : α} {xs : List α} (p : idxA i.len xs n = some v) (j : Qn ops ⟨sl,hp,nx⟩ ⟨some t,.indexAddr a x y,ty,pos,af,g⟩ = some true) (o : T a = some i)
    (q : AS.ev ⟨sl,hp,nx⟩ x = some (.ref m es 0 0)) (b : AS.ev ⟨sl,hp,nx⟩ y = some (.d (.int k n))) (c : i.kind = .array)
    (h : OpsK P T base ops dr l ⟨(t,.ref m es 0 (n.toNat * i.esize))::sl,hp,nx⟩ K) : OpsK P T base ops dr (⟨some t,.indexAddr a x y,ty,pos,af,g⟩::l) ⟨sl,hp,nx⟩ K:=by
  obtain ⟨r,f,_⟩:=qdp p;exact Y8 j (v:=.ref m es 0 (n.toNat * i.esize)) (st1:=⟨sl,hp,nx⟩) (by simp [opFn,q,b,o,q3m,c,r,f]) h (Ji rfl)
theorem qef {α : Type} {p : Operand} {a : TypeId} {i : TI} {m es sz f : Nat} {n : Int} {xs : List α} {enc : α→List DV} {v : α} (w : V) (o : idxA f xs n = some v) (b : ∀ x,(enc x).length = sz) (j : Qn ops ⟨sl,hp,nx⟩ ⟨some t,.load a p,ty,pos,af,g⟩ = some true) (k : T a = some i)
    (r : AS.ev ⟨sl,hp,nx⟩ p = some (.ref m es 0 (n.toNat * sz))) (hb : find hp m = some (.dat es [xs.flatMap enc])) (hs : sz = i.size) (c : (q1q i.agg (enc v)).map .d = some w)
    (h : OpsK P T base ops dr l ⟨(t,w)::sl,hp,nx⟩ K) (q : okF dr l.length (fp ⟨sl,hp,nx⟩ (.load a p)) = true:=by rfl) : OpsK P T base ops dr (⟨some t,.load a p,ty,pos,af,g⟩::l) ⟨sl,hp,nx⟩ K:=
  qjn j k r hb rfl (by rw [← hs];exact qzy b (qdp o).2.2) c h q
theorem qsb {α : Type} {p x : Operand} {k : TypeId} {i : TI} {m es sz r : Nat} {n : Int} {xs : List α} {enc : α→List DV} {v : α} (b : α) {u : V} (y : idxA r xs n = some v) (a : ∀ x,(enc x).length = sz) (t : Qn ops ⟨sl,hp,nx⟩ ⟨none,.store k p x,ty,pos,af,g⟩ = some true) (w : T k = some i)
    (hp' : AS.ev ⟨sl,hp,nx⟩ p = some (.ref m es 0 (n.toNat * sz))) (hx : AS.ev ⟨sl,hp,nx⟩ x = some u) (hb : find hp m = some (.dat es [xs.flatMap enc])) (hs : sz = i.size) (q : cellsOf u = (enc b).map .d) (s : (enc b).all Ya = true)
    (h : OpsK P T base ops dr l ⟨sl,repl hp m (.dat es [(xs.set n.toNat b).flatMap enc]),nx⟩ K) (z : okO dr l.length ⟨sl,hp,nx⟩ (.store k p x) ⟨sl,repl hp m (.dat es [(xs.set n.toNat b).flatMap enc]),nx⟩ = true:=by rfl) : OpsK P T base ops dr (⟨none,.store k p x,ty,pos,af,g⟩::l) ⟨sl,hp,nx⟩ K:=by
  have j:=Kc (qdp y).2.2;refine Y8 t (v:=.dead) (st1:=⟨sl,repl hp m (.dat es [(xs.set n.toNat b).flatMap enc]),nx⟩) ?_ h z;have f : (cellsOf u).all Kh = true:=by rw [q,List.all_map];exact s
  have c : (cellsOf u).length = i.size:=by rw [q,List.length_map,a];exact hs
  have o : n.toNat * sz + i.size≤(xs.flatMap enc).length:=by
    rw [qpu a,← hs,← Nat.succ_mul];exact Nat.mul_le_mul_right _ j
  simp only [opFn,w,hp',hx,Jm,AS.blk,hb,Nat.beq_refl];rw [qn (by simp [f,c])];simp only [List.getElem?_cons_zero];rw [ql o,q,qc9];simp only [qzn a j,AS.setBlk,List.set_cons_zero];rfl
theorem qc0 {α : Type} {st : AS} {ρ : Nat→Nat} {fz ph : List Nat} {nx n es : Nat} {w : Nat × Nat} {ys : List α} {enc : α→List DV} (a : w.1 + w.2≤ys.length) (hb : st.blk n = some (.dat es (ys.map enc))) (b : n∈fz) : Wv st ρ fz ph nx (.hs n es w.1 w.2) (.d (.sl es (((ys.drop w.1).take w.2).map enc))):=
  .frz hb b (by simpa using a) (by rw [List.map_take,List.map_drop]) rfl
theorem qna {hp : List (Nat × Blk)} {a : List V} {ds C : List DV} (h : Ko hp a = some ds) : Ko hp (a ++ C.map .d) = some (ds ++ C):=by
  induction a generalizing ds with
  | nil=>
    simp [Ko] at h;subst h
    induction C with
    | nil=>rfl
    | cons c C ih=>
      simp only [List.nil_append,List.map_cons] at ih ⊢;simp only [Ko];rw [show toD hp 8 (.d c) = some c from rfl,ih]
  | cons v a ih=>
    simp only [Ko] at h;split at h <;> simp at h
    rename_i x l b f;subst h;simp only [List.cons_append,Ko,b,ih f]
theorem qpv {a : List V} {C : List DV} : fpC (a ++ C.map .d) = fpC a:=by
  unfold fpC;have : (C.map V.d).all V.isD = true:=by rw [List.all_map];simp [V.isD]
  rw [List.all_append,this,Bool.and_true]
theorem Yn {c : Call} {f : FuncId} {C ds : List DV} {r : DV} (a : List V) (b : Pure P T f (ds ++ C) r) (m : Qn ops ⟨sl,hp,nx⟩ ⟨some t,.call c,ty,pos,af,g⟩ = some true) (k : callee ⟨sl,hp,nx⟩ c = some (f,a ++ C.map .d)) (hd : Ko hp a = some ds)
    (hs : (a.all V.isD = true∨r.scalar = true)) (h : OpsK P T base ops dr l ⟨(t,.d r)::sl,hp,nx⟩ K) (j : okF dr l.length (fpC a) = true:=by rfl) : OpsK P T base ops dr (⟨some t,.call c,ty,pos,af,g⟩::l) ⟨sl,hp,nx⟩ K:=by
  refine qjl m rfl k (qna hd) ?_ b h (by rw [qpv];exact j);rcases hs with hs | hs
  · left;rw [List.all_append,hs,Bool.true_and,List.all_map];simp [V.isD]
  · exact .inr hs
end
end Go.Am
namespace Go.Am
open Go
theorem Yc {base : Nat} {st st' : AS} (l : List (Nat × Nat)) (fz ph : List Nat) (g : wkOk base l fz ph st'.hp st'.nx = true) (hs : WkL st (rho l) fz ph st'.nx st'.sl) (s : WkH st (rho l) fz ph st'.nx st'.hp) : Wk base (rho l) fz ph st st':=by
  simp only [wkOk,Bool.and_eq_true,Nat.ble_eq,List.all_eq_true] at g;obtain ⟨⟨⟨⟨q,p⟩,w⟩,v⟩,o⟩:=g;refine ⟨?_,?_,?_,?_,?_,q,?_,?_⟩
  · exact fun t x h=>hs.get (Zz h)
  · exact fun n y h=>s.get (Zz h)
  · intro n m b c a j d k r;have:=o _ (Zz a);simp only [Bool.or_eq_true,Bool.and_eq_true,q56,List.all_eq_true,Bool.not_eq_true'] at this;rcases this with h | h
    · exact absurd h d
    · have:=h.2 _ (Zz j);rcases this with (f | f) | f
      · exact absurd f k
      · rw [r] at f;simp at f
      · exact Nat.eq_of_beq_eq_true f
  · intro n b a d u;have:=o _ (Zz a);simp only [Bool.or_eq_true,Bool.and_eq_true,q56,Bool.not_eq_true'] at this;rcases this with h | h
    · exact absurd h d
    · rw [q56.2 u] at h;exact absurd h.1 qc
  · intro n a;unfold rho;split
    · rename_i m j;have:=p _ (Zz j);simp at this;omega
    · rfl
  · exact fun n a=>w n a
  · exact fun n a=>v n a
def q7c (l l3 : List (Nat × Nat)) (k k' nx nxN : Nat) : Bool:=
  (List.range k).all (fun i=>Nat.blt (rho l i) nx && Nat.beq (rho l3 (rho l i)) i) && (List.range nx).all (fun m=>(Nat.blt (rho l3 m) k && Nat.beq (rho l (rho l3 m)) m) || Nat.ble k' (rho l3 m)) && Nat.ble nx nxN
def OldL (l : List (Nat × Nat)) (k : Nat) (hp hpR : List (Nat × Blk)) : List (Nat × Blk)→Prop
  | []=>True
  | (m,b)::r=>(find hpR m = some b∨(find hp m = some b∧(List.range k).all (fun i=>!(Nat.beq (rho l i) m)) = true))∧OldL l k hp hpR r
theorem OldL.get {l : List (Nat × Nat)} {k : Nat} {hp a : List (Nat × Blk)} : ∀ {r : List (Nat × Blk)},OldL l k hp a r→∀ m b,(m,b)∈r→find a m = some b∨(find hp m = some b∧∀ i,i < k→rho l i≠m)
  | [],_,m,b,h=>by cases h
  | (m',b')::r,h,m,b,c=>by
    rcases List.mem_cons.1 c with e | c
    · cases e
      refine h.1.imp (fun x=>x) fun ⟨d,h2⟩=>⟨d,fun i hi e=>?_⟩
      have:=List.all_eq_true.1 h2 i (List.mem_range.2 hi)
      rw [e] at this;simp at this
    · exact OldL.get h.2 m b c
section
variable {P : Program} {T : Tab} {base : Nat} {ops : Array Oper} {l : List Oper} {sl : List (Nat × V)} {hp : List (Nat × Blk)} {nx : Nat} {K : AS→Prop} {ty : TypeId} {pos : String} {af : Array Edge} {dst : Option Tmp} {g : Option (Nat × Bool)}
theorem U1 {c : Call} {f : FuncId} {d : List V} {hp0 p : List (Nat × Blk)} {k w : Nat} {vR : V} (r x : List (Nat × Nat)) (s : List V) (y : V) (a q : List (Nat × Blk)) (j : Nat) (he : K8 P T f d hp0 k vR p w) (hg : Qn ops ⟨sl,hp,nx⟩ ⟨dst,.call c,ty,pos,af,g⟩ = some true) (hc : callee ⟨sl,hp,nx⟩ c = some (f,s)) (o : s.length = d.length)
    (v : Wk 0 (rho r) [] [] ⟨Ky 0 s,hp,nx⟩ ⟨Ky 0 d,hp0,k⟩) (u : Wk 0 (rho x) [] [] ⟨[(0,vR)],p,w⟩ ⟨[(0,y)],a,j⟩) (hb : q7c r x k w nx j = true) (hold : OldL r k hp a q)
    (h : OpsK P T base ops none l ((⟨sl,q,j⟩ : AS).putD dst y) K) : OpsK P T base ops none (⟨dst,.call c,ty,pos,af,g⟩::l) ⟨sl,hp,nx⟩ K:=by
  obtain ⟨st2,z,k2⟩:=h;refine ⟨st2,.callF hg rfl hc o v he u ⟨?_,?_,?_,?_,?_⟩ z,k2⟩
  · intro i hi;simp only [q7c,Bool.and_eq_true,List.all_eq_true,List.mem_range] at hb;have:=hb.1.1 i hi;exact ⟨by simpa [Nat.blt_eq] using this.1,Nat.eq_of_beq_eq_true this.2⟩
  · intro m t;simp only [q7c,Bool.and_eq_true,List.all_eq_true,List.mem_range,Bool.or_eq_true] at hb;rcases hb.1.2 m t with n | n
    · exact .inl ⟨by simpa [Nat.blt_eq] using n.1,Nat.eq_of_beq_eq_true n.2⟩
    · exact .inr (by simpa using n)
  · intro m t;cases t
  · exact fun m b n=>hold.get m b (Zz n)
  · simp only [q7c,Bool.and_eq_true] at hb;simpa using hb.2
end
theorem Kq {P : Program} {T : Tab} {f : FuncId} {fn : Func} {c : Code} {d : List V} {hp b : List (Nat × Blk)} {nx j : Nat} {vR : V} (k : P.funcs[f]? = some fn) (hb : fn.body = some c) (a : (fn.name == "runtime.NumGoroutine") = false) (g : codeOk fn.ntmps c = true) (n : Nat.ble d.length fn.ntmps = true)
    (h : RunK P T nx [c] ⟨Ky 0 d,hp,nx⟩ (fun ex st=>(ex = .nor∨ex = .ret)∧∃ v,resV T st fn.results.toList = some v∧WkE nx ⟨[(0,v)],st.hp,st.nx⟩ ⟨[(0,vR)],b,j⟩)) : K8 P T f d hp nx vR b j:=by
  obtain ⟨ex,st',e,m,v,l,ρ,fz,ph,w⟩:=q4m h;exact .wk (.mk k hb a g (by simpa using n) e m l) w
def shlK (k : IntKind) (x y : Int) : Option Int:=if y < 0 then none else some (k.wrap (x * 2 ^ (min y.toNat k.bits)))
section
variable {P : Program} {T : Tab} {base : Nat} {ops : Array Oper} {dr : Dr} {l : List Oper} {sl : List (Nat × V)} {hp : List (Nat × Blk)} {nx : Nat} {K : AS→Prop} {ty : TypeId} {pos : String} {af : Array Edge} {t : Tmp} {g : Option (Nat × Bool)}
theorem qs8 {x y : Operand} {f j : TypeId} {a b r : Int} {k k' : IntKind} (c : shlK k a b = some r) (p : Qn ops ⟨sl,hp,nx⟩ ⟨some t,.binOp .shl f x y j,ty,pos,af,g⟩ = some true) (n : AS.ev ⟨sl,hp,nx⟩ x = some (.d (.int k a))) (m : AS.ev ⟨sl,hp,nx⟩ y = some (.d (.int k' b)))
    (h : OpsK P T base ops dr l ⟨(t,.d (.int k r))::sl,hp,nx⟩ K) : OpsK P T base ops dr (⟨some t,.binOp .shl f x y j,ty,pos,af,g⟩::l) ⟨sl,hp,nx⟩ K:=by
  unfold shlK at c;split at c
  · cases c
  · rename_i o;cases c;exact Y8 p (v:=.d (.int k (k.wrap (a * 2 ^ (min b.toNat k.bits))))) (st1:=⟨sl,hp,nx⟩) (by simp [opFn,n,m,binD,q8c,o]) h (Ji rfl)
end
def Qu (n m : Nat) : Option Unit:=if n = m then some () else none
theorem Ki {n m : Nat} {u : Unit} (h : Qu n m = some u) : n = m:=by
  unfold Qu at h;split at h
  · assumption
  · cases h
def q4g (s : ByteArray) (i : Int) : Option Int:=(if 0≤i then s[i.toNat]? else none).map fun b=>(b.toNat : Int)
theorem qs1 {P : Program} {T : Tab} {base : Nat} {ops : Array Oper} {dr : Dr} {l : List Oper} {sl : List (Nat × V)} {hp : List (Nat × Blk)} {nx : Nat} {K : AS→Prop} {ty : TypeId} {pos : String} {af : Array Edge} {t : Tmp} {g : Option (Nat × Bool)} {x y : Operand} {c : TypeId} {i : TI} {k : IntKind} {n v : Int} (s : ByteArray) (a : q4g s n = some v) (m : Qn ops ⟨sl,hp,nx⟩ ⟨some t,.index c x y,ty,pos,af,g⟩ = some true) (o : T c = some i)
    (p : AS.ev ⟨sl,hp,nx⟩ x = some (.d (.str s))) (f : AS.ev ⟨sl,hp,nx⟩ y = some (.d (.int k n))) (j : i.kind = .str)
    (h : OpsK P T base ops dr l ⟨(t,.d (.int .u8 v))::sl,hp,nx⟩ K) : OpsK P T base ops dr (⟨some t,.index c x y,ty,pos,af,g⟩::l) ⟨sl,hp,nx⟩ K:=by
  unfold q4g at a;rw [Kv] at a;obtain ⟨b,hb,rfl⟩:=a;refine Y8 m (v:=.d (.int .u8 b.toNat)) (st1:=⟨sl,hp,nx⟩) ?_ h (Ji rfl);simp only [opFn,o,p,f,j,hb,Option.map_some]
open Classical in
noncomputable def lim {α : Type} (f : Nat→Option α) : Option α:=if h : ∃ r n,f n = some r then some h.choose else none
theorem qdu {α : Type} {f : Nat→Option α} {r : α} (h : lim f = some r) : ∃ n,f n = some r:=by
  unfold lim at h;split at h
  · rename_i a;cases h;exact a.choose_spec
  · cases h
theorem qr3 {α : Type} {f : Nat→Option α} {n : Nat} {r : α} (h : f n = some r) : ∃ a,lim f = some a:=by
  unfold lim;rw [dif_pos ⟨r,n,h⟩];exact ⟨_,rfl⟩
theorem Yh {P : Program} {T : Tab} {base : Nat} {c : Code} {cs : List Code} {st : AS} {K : Ex→AS→Prop} (h : RunK P T base (c::.loop c::cs) st K) : RunK P T base (.loop c::cs) st K:=by
  obtain ⟨ex,st1,d,b⟩:=h
  cases ex with
  | nor=>
    obtain ⟨a,st2,g,f⟩:=b;exact ⟨a,st2,.loopN d g,f⟩
  | exit i=>exact ⟨_,_,.loopX d qc,b⟩
  | ret=>exact ⟨_,_,.loopX d qc,b⟩
def idxW {α : Type} (xs : List α) (w : Nat × Nat) (k : Int) : Option α:=if 0≤k∧k < w.2 then xs[w.1 + k.toNat]? else none
theorem qdq {α : Type} {xs : List α} {w : Nat × Nat} {k : Int} {v : α} (h : idxW xs w k = some v) : idx xs ((w.1 : Int) + k) = some v:=by
  unfold idxW at h;split at h
  · rename_i a;unfold idx;rw [ql q0];rw [show ((w.1 : Int) + k).toNat = w.1 + k.toNat by omega];exact h
  · cases h
def q13 (n : Nat) (w : Nat × Nat) : Option Unit:=if w.1 + w.2≤n then some () else none
theorem qby {n : Nat} {w : Nat × Nat} {u : Unit} (h : q13 n w = some u) : w.1 + w.2≤n:=by
  unfold q13 at h;split at h
  · assumption
  · cases h
def clrw {α : Type} (xs : List α) (w : Nat × Nat) (z : α) : List α:=splice xs w.1 (List.replicate w.2 z)
theorem qgn {α : Type} {xs : List α} {w : Nat × Nat} {z : α} (h : w.1 + w.2≤xs.length) : (clrw xs w z).length = xs.length:=by
  unfold clrw splice;simp;omega
section
variable {P : Program} {T : Tab} {base : Nat} {ops : Array Oper} {dr : Dr} {l : List Oper} {sl : List (Nat × V)} {hp : List (Nat × Blk)} {nx : Nat} {K : AS→Prop} {ty : TypeId} {pos : String} {af : Array Edge} {t : Tmp} {g : Option (Nat × Bool)}
theorem qee {α : Type} {x y : Operand} {b : TypeId} {i : TI} {k : IntKind} {n : Int} {m es : Nat} {xs : List α} {w : Nat × Nat} {v : α} (a : idxW xs w n = some v) (o : Qn ops ⟨sl,hp,nx⟩ ⟨some t,.indexAddr b x y,ty,pos,af,g⟩ = some true) (q : T b = some i)
    (r : AS.ev ⟨sl,hp,nx⟩ x = some (.hs m es w.1 w.2)) (f : AS.ev ⟨sl,hp,nx⟩ y = some (.d (.int k n))) (j : i.kind = .slice) (p : es = i.esize)
    (h : OpsK P T base ops dr l ⟨(t,.ref m es ((w.1 : Int) + n).toNat 0)::sl,hp,nx⟩ K) : OpsK P T base ops dr (⟨some t,.indexAddr b x y,ty,pos,af,g⟩::l) ⟨sl,hp,nx⟩ K:=by
  have c : 0≤n∧n < w.2:=by
    unfold idxW at a;split at a
    · assumption
    · cases a
  refine qry o q r f j p c.1 c.2 ?_;rw [show ((w.1 : Int) + n).toNat = w.1 + n.toNat by omega] at h;exact h
theorem qrx {α : Type} {x : Operand} {a : TypeId} {i : TI} {n es : Nat} {xs : List α} {enc : α→List DV} (z : α) {w : Nat × Nat} (b : w.1 + w.2≤xs.length) (j : Qn ops ⟨sl,hp,nx⟩ ⟨none,.call {callee:=.builtin .clear,args:=#[x],argTypes:=#[a]},ty,pos,af,g⟩ = some true) (m : T a = some i)
    (p : AS.ev ⟨sl,hp,nx⟩ x = some (.hs n es w.1 w.2)) (hb : find hp n = some (.dat es (xs.map enc))) (f : i.kind = .slice) (k : i.esize = es) (c : i.ezero = enc z)
    (h : OpsK P T base ops dr l ⟨sl,repl hp n (.dat es ((clrw xs w z).map enc)),nx⟩ K) (o : okO dr l.length ⟨sl,hp,nx⟩ (.call {callee:=.builtin .clear,args:=#[x],argTypes:=#[a]}) ⟨sl,repl hp n (.dat es ((clrw xs w z).map enc)),nx⟩ = true:=by rfl) :
    OpsK P T base ops dr (⟨none,.call {callee:=.builtin .clear,args:=#[x],argTypes:=#[a]},ty,pos,af,g⟩::l) ⟨sl,hp,nx⟩ K:=by
  subst k;refine Y8 j (v:=.d (.tup [])) (st1:=⟨sl,repl hp n (.dat i.esize ((clrw xs w z).map enc)),nx⟩) ?_ h o;simp only [opFn,evL,p,Kz];simp only [List.getElem?_toArray,List.getElem?_cons_zero,m];rw [ql ⟨f,by simp [Jx]⟩];simp only [Jw,AS.blk,hb];rw [ql ⟨by simpa using b,trivial⟩,c];simp [clrw,splice,AS.setBlk]
end
section
variable {P : Program} {T : Tab} {base : Nat} {ops : Array Oper} {dr : Dr} {l : List Oper} {sl : List (Nat × V)} {hp : List (Nat × Blk)} {nx : Nat} {K : AS→Prop} {ty : TypeId} {pos : String} {af : Array Edge} {t : Tmp} {g : Option (Nat × Bool)}
end
end Go.Am
namespace Go.Am
open Go
theorem J {α : Sort _} {a : α} : a = a:=rfl
abbrev qe (n : Int) : DV:=.int .i64 n
abbrev q7 (n : Int) : V:=.d (.int .i64 n)
abbrev Q0 (b : Bool) : V:=.d (.bool b)
section
variable {P : Program} {T : Tab} {base : Nat} {ops : Array Oper} {dr : Dr} {l : List Oper} {sl : List (Nat × V)} {hp : List (Nat × Blk)} {nx : Nat} {K : AS→Prop} {ty : TypeId} {pos : String} {af : Array Edge} {t : Tmp} {g : Option (Nat × Bool)} {v : V}
theorem U {x : Operand} (a : (Qn ops ⟨sl,hp,nx⟩ ⟨some t,.move x,ty,pos,af,g⟩,AS.ev ⟨sl,hp,nx⟩ x) = (some true,some v))
    (h : OpsK P T base ops dr l ⟨(t,v)::sl,hp,nx⟩ K) : OpsK P T base ops dr (⟨some t,.move x,ty,pos,af,g⟩::l) ⟨sl,hp,nx⟩ K:=qeg (Prod.mk.inj a).1 (Prod.mk.inj a).2 h
theorem qa {x : Operand} (a : (Qn ops ⟨sl,hp,nx⟩ ⟨some t,.assign x,ty,pos,af,g⟩,AS.ev ⟨sl,hp,nx⟩ x) = (some true,some v))
    (h : OpsK P T base ops dr l ⟨(t,v)::sl,hp,nx⟩ K) : OpsK P T base ops dr (⟨some t,.assign x,ty,pos,af,g⟩::l) ⟨sl,hp,nx⟩ K:=qrw (Prod.mk.inj a).1 (Prod.mk.inj a).2 h
theorem O {op : Op} (v : V) (a : (Qn ops ⟨sl,hp,nx⟩ ⟨some t,op,ty,pos,af,g⟩,opFn T ⟨sl,hp,nx⟩ op) = (some true,some (v,⟨sl,hp,nx⟩))) (h : OpsK P T base ops dr l ⟨(t,v)::sl,hp,nx⟩ K)
    (b : okO dr l.length ⟨sl,hp,nx⟩ (op) ⟨sl,hp,nx⟩ = true:=by rfl) : OpsK P T base ops dr (⟨some t,op,ty,pos,af,g⟩::l) ⟨sl,hp,nx⟩ K:=qsd v (Prod.mk.inj a).1 (Prod.mk.inj a).2 h b
theorem Qb {op : Op} (n : Nat) (b : Blk) (a : (Qn ops ⟨sl,hp,nx⟩ ⟨none,op,ty,pos,af,g⟩,opFn T ⟨sl,hp,nx⟩ op) = (some true,some (.dead,⟨sl,repl hp n b,nx⟩))) (h : OpsK P T base ops dr l ⟨sl,repl hp n b,nx⟩ K) (c : okO dr l.length ⟨sl,hp,nx⟩ (op) ⟨sl,repl hp n b,nx⟩ = true:=by rfl) : OpsK P T base ops dr (⟨none,op,ty,pos,af,g⟩::l) ⟨sl,hp,nx⟩ K:=
  qsc n b (Prod.mk.inj a).1 (Prod.mk.inj a).2 h c
theorem Qs {op : Op} (v : V) (b : Blk) (a : (Qn ops ⟨sl,hp,nx⟩ ⟨some t,op,ty,pos,af,g⟩,opFn T ⟨sl,hp,nx⟩ op) = (some true,some (v,⟨sl,(nx,b)::hp,nx + 1⟩))) (h : OpsK P T base ops dr l ⟨(t,v)::sl,(nx,b)::hp,nx + 1⟩ K) (c : okO dr l.length ⟨sl,hp,nx⟩ (op) ⟨sl,(nx,b)::hp,nx + 1⟩ = true:=by rfl) : OpsK P T base ops dr (⟨some t,op,ty,pos,af,g⟩::l) ⟨sl,hp,nx⟩ K:=
  qs6 v b (Prod.mk.inj a).1 (Prod.mk.inj a).2 h c
theorem q5b {α : Type} {x : Operand} {a : TypeId} {i : TI} {es : Nat} {xs : List α} {enc : α→List DV} (n : Int) (f : (xs.length : Int) = n) (b : Qn ops ⟨sl,hp,nx⟩ ⟨some t,.call {callee:=.builtin .len,args:=#[x],argTypes:=#[a]},ty,pos,af,g⟩ = some true) (k : T a = some i) (j : i.kind = .slice) (c : AS.ev ⟨sl,hp,nx⟩ x = some (.d (.sl es (xs.map enc))))
    (h : OpsK P T base ops dr l ⟨(t,.d (.int .i64 n))::sl,hp,nx⟩ K) : OpsK P T base ops dr (⟨some t,.call {callee:=.builtin .len,args:=#[x],argTypes:=#[a]},ty,pos,af,g⟩::l) ⟨sl,hp,nx⟩ K:=by
  subst f;exact qjp b k j c h
theorem K3 {α : Type} {x y : Operand} {a : TypeId} {i : TI} {k : IntKind} {n : Int} {es : Nat} {xs : List α} {enc : α→List DV} {v : α} (m : idx xs n = some v)
    (b : (Qn ops ⟨sl,hp,nx⟩ ⟨some t,.indexAddr a x y,ty,pos,af,g⟩,T a,AS.ev ⟨sl,hp,nx⟩ x,AS.ev ⟨sl,hp,nx⟩ y,i.kind,es) = (some true,some i,some (.d (.sl es (xs.map enc))),some (.d (.int k n)),.slice,i.esize))
    (h : OpsK P T base ops dr l ⟨(t,.dref (enc v) 0)::sl,hp,nx⟩ K) : OpsK P T base ops dr (⟨some t,.indexAddr a x y,ty,pos,af,g⟩::l) ⟨sl,hp,nx⟩ K:=by
  simp only [Prod.mk.injEq] at b;obtain ⟨f,c,q,p,o,j⟩:=b;exact qs0 m f c q p o j h
theorem qv {α : Type} {x y : Operand} {a : TypeId} {i : TI} {k : IntKind} {n : Int} {m es len : Nat} {xs : List α} {v : α} (o : idx xs n = some v) (p : len = xs.length)
    (b : (Qn ops ⟨sl,hp,nx⟩ ⟨some t,.indexAddr a x y,ty,pos,af,g⟩,T a,AS.ev ⟨sl,hp,nx⟩ x,AS.ev ⟨sl,hp,nx⟩ y,i.kind,es) = (some true,some i,some (.hs m es 0 len),some (.d (.int k n)),.slice,i.esize))
    (h : OpsK P T base ops dr l ⟨(t,.ref m es n.toNat 0)::sl,hp,nx⟩ K) : OpsK P T base ops dr (⟨some t,.indexAddr a x y,ty,pos,af,g⟩::l) ⟨sl,hp,nx⟩ K:=by
  simp only [Prod.mk.injEq] at b;obtain ⟨f,c,s,r,q,j⟩:=b;exact qrz o p f c s r q j h
theorem Qa {α : Type} {p : Operand} {a : TypeId} {i : TI} {m es j : Nat} {n : Int} {xs : List α} {enc : α→List DV} {r : List DV} {v : α} (w : V) (o : idx xs n = some v)
    (b : (Qn ops ⟨sl,hp,nx⟩ ⟨some t,.load a p,ty,pos,af,g⟩,T a,AS.ev ⟨sl,hp,nx⟩ p,find hp m,sub (enc v) j i.size,(q1q i.agg r).map V.d) = (some true,some i,some (.ref m es n.toNat j),some (.dat es (xs.map enc)),some r,some w))
    (h : OpsK P T base ops dr l ⟨(t,w)::sl,hp,nx⟩ K) (q : okF dr l.length (fp ⟨sl,hp,nx⟩ (.load a p)) = true:=by rfl) : OpsK P T base ops dr (⟨some t,.load a p,ty,pos,af,g⟩::l) ⟨sl,hp,nx⟩ K:=by
  simp only [Prod.mk.injEq] at b;obtain ⟨f,c,x,u,s,k⟩:=b;exact qs3 w o f c x u s k h q
theorem K5 {α : Type} {x : Operand} {a : TypeId} {i : TI} {es : Nat} {xs : List α} {enc : α→List DV}
    (b : (Qn ops ⟨sl,hp,nx⟩ ⟨some t,.call {callee:=.builtin .len,args:=#[x],argTypes:=#[a]},ty,pos,af,g⟩,T a,i.kind,AS.ev ⟨sl,hp,nx⟩ x) = (some true,some i,.slice,some (.d (.sl es (xs.map enc)))))
    (h : OpsK P T base ops dr l ⟨(t,.d (.int .i64 (xs.length : Int)))::sl,hp,nx⟩ K) : OpsK P T base ops dr (⟨some t,.call {callee:=.builtin .len,args:=#[x],argTypes:=#[a]},ty,pos,af,g⟩::l) ⟨sl,hp,nx⟩ K:=by
  simp only [Prod.mk.injEq] at b;obtain ⟨j,c,k,f⟩:=b;exact qjp j c k f h
theorem Q5 {c : Call} {f : FuncId} {ds : List DV} {r : DV} {a : List V} (b : Pure P T f ds r) (j : (Qn ops ⟨sl,hp,nx⟩ ⟨some t,.call c,ty,pos,af,g⟩,callee ⟨sl,hp,nx⟩ c,Ko hp a,a.all V.isD) = (some true,some (f,a),some ds,true))
    (h : OpsK P T base ops dr l ⟨(t,.d r)::sl,hp,nx⟩ K) (k : okF dr l.length (fpC a) = true:=by rfl) : OpsK P T base ops dr (⟨some t,.call c,ty,pos,af,g⟩::l) ⟨sl,hp,nx⟩ K:=by
  simp only [Prod.mk.injEq] at j;obtain ⟨o,m,p,n⟩:=j;exact q1p a b o m p (.inl n) h k
theorem Qc {st : AS} {c : List ResultVar} {r : DV} (v : V) (a : (resV T st c,toD st.hp 8 v) = (some v,some r)) : (Ex.ret = .nor∨Ex.ret = .ret)∧∃ v b,resV T st c = some v∧toD st.hp 8 v = some b∧DLe b r:=by
  simp only [Prod.mk.injEq] at a;exact ⟨.inr rfl,v,r,a.1,a.2,.refl _⟩
theorem qb {id : Nat} {ops : Array Oper} {b : Code} {cs : List Code} {st : AS} {K : Ex→AS→Prop} (h : OpsK P T base ops none ops.toList st (fun st'=>RunK P T base (b::cs) st' K)) : RunK P T base (.seq (.region id ops false) b::cs) st K:=qf (qy h)
theorem qq {a ops : Array Oper} {id : Nat} {b : Code} {cs : List Code} {st : AS} {K : Ex→AS→Prop} (h : OpsK P T base ops none ops.toList st (fun st'=>RunK P T base (b::cs) st' K)) : OpsK P T base a dr [] st (fun st'=>RunK P T base (.seq (.region id ops false) b::cs) st' K):=q9 (qf (qy h))
theorem qx {a : Array Oper} {cs : List Code} {st : AS} {K : Ex→AS→Prop} (h : K .ret st) : OpsK P T base a dr [] st (fun st'=>RunK P T base (.ret::cs) st' K):=q9 (q1s h)
theorem qz {a : Array Oper} {st : AS} {K : Ex→AS→Prop} (h : K .nor st) : OpsK P T base a dr [] st (fun st'=>RunK P T base [] st' K):=q9 (Qi h)
theorem Ka {dst : Option Tmp} {c : Call} {f : FuncId} {m : List V} {hp0 o : List (Nat × Blk)} {k s : Nat} {vR : V} (j p : List (Nat × Nat)) (q : List V) (t : V) (n : Nat) (a : List (Nat × Blk)) (b : Nat) (v : K8 P T f m hp0 k vR o s)
    (h : OpsK P T base ops none l ((⟨sl,a,b⟩ : AS).putD dst t) K)
    (w : Qn ops ⟨sl,hp,nx⟩ ⟨dst,.call c,ty,pos,af,g⟩ = some true:=by exact rfl) (hc : callee ⟨sl,hp,nx⟩ c = some (f,q):=by exact rfl) (r : q.length = m.length:=by exact rfl)
    (o1 : wkOk 0 j [] [] hp0 k = true:=by exact rfl)
    (u : WkL ⟨Ky 0 q,hp,nx⟩ (rho j) [] [] k (Ky 0 m):=by
      repeat' first | exact trivial | refine And.intro (Exists.intro _ (And.intro rfl ?_)) ?_ | exact Wv.d (DLe.refl _) | exact Wv.ref rfl qw (ltd rfl) | exact Wv.mp rfl qw (ltd rfl) | exact Wv.hs rfl qw (ltd rfl) | exact Wv.d (DLe.nil _) | refine qbz ?_ | refine qfo ?_ | refine q28 ?_ | refine WvL.cons ?_ ?_ | exact WvL.nil | exact Wv.dref _ _ | exact Wv.yld rfl qw (ltd rfl))
    (b1 : WkH ⟨Ky 0 q,hp,nx⟩ (rho j) [] [] k hp0:=by
      repeat' first | exact trivial | refine And.intro (And.intro (ltd rfl) (Or.inr (And.intro qw (Exists.intro _ (And.intro rfl ?_))))) ?_ | exact Wb.dat _ _ | exact Wb.mp _ | refine Jn ?_ | refine qfl ?_ | refine WvC.cons ?_ rfl ?_ | exact WvC.nil | exact Wv.d (DLe.refl _) | exact Wv.ref rfl qw (ltd rfl) | exact Wv.mp rfl qw (ltd rfl) | exact Wv.hs rfl qw (ltd rfl) | exact Wv.d (DLe.nil _))
    (y : wkOk 0 p [] [] (a.take n) b = true:=by exact rfl)
    (x : WkL ⟨[(0,vR)],o,s⟩ (rho p) [] [] b [(0,t)]:=by
      repeat' first | exact trivial | refine And.intro (Exists.intro _ (And.intro rfl ?_)) ?_ | exact Wv.d (DLe.refl _) | exact Wv.ref rfl qw (ltd rfl) | exact Wv.mp rfl qw (ltd rfl) | exact Wv.hs rfl qw (ltd rfl) | exact Wv.d (DLe.nil _) | refine qbz ?_ | refine qfo ?_ | refine q28 ?_ | refine WvL.cons ?_ ?_ | exact WvL.nil | exact Wv.dref _ _ | exact Wv.yld rfl qw (ltd rfl))
    (z : WkH ⟨[(0,vR)],o,s⟩ (rho p) [] [] b (a.take n):=by
      repeat' first | exact trivial | refine And.intro (And.intro (ltd rfl) (Or.inr (And.intro qw (Exists.intro _ (And.intro rfl ?_))))) ?_ | exact Wb.dat _ _ | exact Wb.mp _ | refine Jn ?_ | refine qfl ?_ | refine WvC.cons ?_ rfl ?_ | exact WvC.nil | exact Wv.d (DLe.refl _) | exact Wv.ref rfl qw (ltd rfl) | exact Wv.mp rfl qw (ltd rfl) | exact Wv.hs rfl qw (ltd rfl) | exact Wv.d (DLe.nil _))
    (hb : q7c j p k s nx b = true:=by exact rfl)
    (hold : OldL j k hp (a.take n) a:=by repeat' first | exact trivial | refine And.intro (Or.inl rfl) ?_ | refine And.intro (Or.inr (And.intro rfl rfl)) ?_) :
    OpsK P T base ops none (⟨dst,.call c,ty,pos,af,g⟩::l) ⟨sl,hp,nx⟩ K:=
  U1 j p q t (a.take n) a b v w hc r (Yc j [] [] o1 u b1) (Yc p [] [] y x z) hb hold h
end
inductive WvR (st : AS) (ρ : Nat→Nat) (fz ph : List Nat) (nx : Nat) : List (List V)→List (List V)→Prop
  | nil : WvR st ρ fz ph nx [] []
  | cons {c d : List V} {cs ds : List (List V)} : WvC st ρ fz ph nx c d→WvR st ρ fz ph nx cs ds→WvR st ρ fz ph nx (c::cs) (d::ds)
theorem WvR.len {st : AS} {ρ : Nat→Nat} {fz ph : List Nat} {nx : Nat} {cs ds : List (List V)} (h : WvR st ρ fz ph nx cs ds) : cs.length = ds.length:=by
  induction h with
  | nil=>rfl
  | cons _ _ ih=>simp [ih]
theorem WvR.get {st : AS} {ρ : Nat→Nat} {fz ph : List Nat} {nx : Nat} {cs ds : List (List V)} (h : WvR st ρ fz ph nx cs ds) : ∀ (j : Nat) (c d : List V),cs[j]? = some c→ds[j]? = some d→WvC st ρ fz ph nx c d:=by
  induction h with
  | nil=>intro i x y h;simp at h
  | cons h1 _ ih=>
    intro i x y b a
    cases i with
    | zero=>simp at b a;subst b;subst a;exact h1
    | succ i=>exact ih i x y (by simpa using b) (by simpa using a)
theorem q10q {st : AS} {ρ : Nat→Nat} {fz ph : List Nat} {nx es : Nat} {cs ds : List (List V)} (h : WvR st ρ fz ph nx cs ds) : Wb st ρ fz ph nx (.cel es cs) (.cel es ds):=
  .cel h.len fun i x y b a=>⟨(h.get i x y b a).len,(h.get i x y b a).get⟩
theorem q10r {st : AS} {ρ : Nat→Nat} {fz ph : List Nat} {nx es : Nat} {cs : List (List DV)} {ds : List (List V)} (h : WvR st ρ fz ph nx (cs.map (·.map .d)) ds) : Wb st ρ fz ph nx (.dat es cs) (.cel es ds):=by
  refine .datcel (by simpa using h.len) fun i x y g b=>?_;have a:=h.get i (x.map .d) y (by simp [g]) b;refine ⟨by simpa using a.len,fun j c d f hd=>a.get j (.d c) d (by simp [f]) hd⟩
theorem wkA {base : Nat} {st st' : AS} (l : List (Nat × Nat)) (fz ph : List Nat) (a : wkOk base l fz ph st'.hp st'.nx = true:=by exact rfl)
    (hs : WkL st (rho l) fz ph st'.nx st'.sl:=by
      repeat' first | exact trivial | refine And.intro (Exists.intro _ (And.intro rfl ?_)) ?_ | exact Wv.d (DLe.refl _) | exact Wv.ref rfl qw (ltd rfl) | exact Wv.mp rfl qw (ltd rfl) | exact Wv.hs rfl qw (ltd rfl) | exact Wv.d (DLe.nil _) | exact Wv.nil qw (ltd rfl) | exact qn0 rfl rfl qw | refine qbz ?_ | refine q10x ?_ | refine qfo ?_ | refine q10y ?_ | refine q28 ?_ | refine WvL.cons ?_ ?_ | exact WvL.nil | exact Wv.dref _ _ | exact Wv.yld rfl qw (ltd rfl))
    (b : WkH st (rho l) fz ph st'.nx st'.hp:=by
      repeat' first | exact trivial | refine And.intro (And.intro (ltd rfl) (Or.inr (And.intro qw (Exists.intro _ (And.intro rfl ?_))))) ?_ | refine And.intro (And.intro (ltd rfl) (Or.inl (And.intro qw (Exists.intro _ (And.intro qw rfl))))) ?_ | exact Wb.dat _ _ | exact Wb.mp _ | refine Jn ?_ | refine qfl ?_ | refine q10q ?_ | refine q10r ?_ | refine WvR.cons ?_ ?_ | exact WvR.nil | refine q10s ?_ | refine WvS.cons rfl ?_ ?_ | exact WvS.nil | refine WvC.cons ?_ rfl ?_ | exact WvC.nil | exact Wv.d (DLe.refl _) | exact Wv.ref rfl qw (ltd rfl) | exact Wv.mp rfl qw (ltd rfl) | exact Wv.hs rfl qw (ltd rfl) | exact Wv.d (DLe.nil _) | exact Wv.nil qw (ltd rfl) | exact qn0 rfl rfl qw | refine q28 ?_ | refine qbz ?_ | refine WvL.cons ?_ ?_ | exact WvL.nil | exact Wv.yld rfl qw (ltd rfl)) : WkE base st st':=wkE l fz ph a hs b
theorem qo {st : AS} {ρ : Nat→Nat} {fz ph : List Nat} {nx t : Nat} {x : DV} (h : st.get t = some (.d x)) : ∃ v,st.get t = some v∧Wv st ρ fz ph nx v (.d x):=⟨_,h,.d (.refl _)⟩
theorem Qj {st : AS} {ρ : Nat→Nat} {fz ph : List Nat} {nx n es : Nat} {xs : List (List DV)} (c : Nat.blt n nx = true) (d : st.blk (ρ n) = some (.dat es xs)) (a : n ∉ ph:=by decide) :
    n < nx∧((n∈ph∧∃ e,e≠0∧(Blk.dat es xs) = .dat e [])∨(n ∉ ph∧∃ b,st.blk (ρ n) = some b∧Wb st ρ fz ph nx b (.dat es xs))):=⟨ltd c,.inr ⟨a,_,d,.dat _ _⟩⟩
abbrev q6 : Option (List Nat) × List Nat:=(some [],[])
abbrev qs (n : Nat) : Option (List Nat) × List Nat:=(some [n],[])
abbrev Qo (n : Nat) : Option (List Nat) × List Nat:=(some [n],[n])
end Go.Am
namespace Go.Am
open Go
inductive DLeR : List (List DV)→List (List DV)→Prop
  | nil : DLeR [] []
  | cons {x y : List DV} {xs ys : List (List DV)} : DLeL x y→DLeR xs ys→DLeR (x::xs) (y::ys)
structure q15 (ag : Bool) (ks : List (Option IntKind)) {α : Type} [DecidableEq α] (ek : α→DV) : Prop where
  agg : ∀ k,Zp (ek k) = ag
  len : ∀ k,(cellsD (ek k)).length = ks.length
  eq : ∀ a b,Kd ks (cellsD (ek a)) (cellsD (ek b)) = some (decide (a = b))
theorem q7s {k : IntKind} : q15 false [some k] (fun n : Int=>DV.int k n):=
  ⟨fun _=>rfl,fun _=>rfl,fun a b=>by simp [cellsD,Kd,q2c];rfl⟩
section
variable {α β : Type} [DecidableEq α]
def Y7 (z : β) (k : α) : List (α × β)→β
  | []=>z
  | (a,v)::r=>if k = a then v else Y7 z k r
def qe8 (k : α) : List (α × β)→Bool
  | []=>false
  | (a,_)::r=>if k = a then true else qe8 k r
def Zg (k : α) (v : β) : List (α × β)→List (α × β)
  | []=>[(k,v)]
  | (a,w)::r=>if k = a then (k,v)::r else (a,w)::Zg k v r
def Yt (k : α) : List (α × β)→List (α × β)
  | []=>[]
  | (a,w)::r=>if k = a then r else (a,w)::Yt k r
abbrev mrow (ek : α→DV) (ev : β→DV) (es : List (α × β)) : List (DV × DV):=es.map fun e=>(ek e.1,ev e.2)
variable {ag : Bool} {ks : List (Option IntKind)} {ek : α→DV} {ev : β→DV}
def Uz (k : α) : List (α × β)→Option Nat
  | []=>none
  | (a,_)::r=>if k = a then some 0 else (Uz k r).map (· + 1)
theorem qan (b : q15 ag ks ek) (k : α) : ∀ es : List (α × β),Zf ag ks (ek k) (mrow ek ev es) = some (Uz k es)
  | []=>rfl
  | (a,v)::r=>by
    have c:=qan b k r
    simp only [mrow,List.map_cons,Zf,b.agg,and_self,if_true,b.eq,Uz] at c ⊢
    by_cases h : k = a
    · simp [h]
    · simp only [h,decide_false,if_false,c]
      cases Uz k r <;> rfl
theorem qds (a : q15 ag ks ek) (k : α) : Ua ag ks (ek k) = true:=by
  simp [Ua,a.agg,a.len]
theorem qrg (b : q15 ag ks ek) (z : β) (k : α) (es : List (α × β)) : mget ag ks (ev z) (ek k) (mrow ek ev es) = some (ev (Y7 z k es),qe8 k es):=by
  unfold mget;rw [qan b]
  induction es with
  | nil=>rfl
  | cons e r ih=>
    obtain ⟨a,v⟩:=e;simp only [Uz,Y7,qe8];by_cases h : k = a
    · simp [h]
    · simp only [h,if_false]
      cases hp : Uz k r with
      | none=>rw [hp] at ih;simpa using ih
      | some j=>rw [hp] at ih;simpa using ih
theorem qrj (b : q15 ag ks ek) (k : α) (v : β) (es : List (α × β)) : mput ag ks (ek k) (ev v) (mrow ek ev es) = some (mrow ek ev (Zg k v es)):=by
  unfold mput;rw [qan b]
  induction es with
  | nil=>rfl
  | cons e r ih=>
    obtain ⟨a,w⟩:=e;simp only [Uz,Zg];by_cases h : k = a
    · simp [h]
    · simp only [h,if_false]
      cases hp : Uz k r with
      | none=>rw [hp] at ih;simp at ih ⊢;exact ih
      | some j=>rw [hp] at ih;simp at ih ⊢;exact ih
theorem qre (b : q15 ag ks ek) (k : α) (es : List (α × β)) : mdel ag ks (ek k) (mrow ek ev es) = some (mrow ek ev (Yt k es)):=by
  unfold mdel;rw [qan b]
  induction es with
  | nil=>rfl
  | cons e r ih=>
    obtain ⟨a,w⟩:=e;simp only [Uz,Yt];by_cases h : k = a
    · simp [h]
    · simp only [h,if_false]
      cases hp : Uz k r with
      | none=>rw [hp] at ih;simp at ih ⊢;exact ih
      | some j=>rw [hp] at ih;simp at ih ⊢;exact ih
end
section
variable {P : Program} {T : Tab} {base : Nat} {ops : Array Oper} {dr : Dr} {l : List Oper} {sl : List (Nat × V)} {hp : List (Nat × Blk)} {nx : Nat} {K : AS→Prop} {ty : TypeId} {pos : String} {af : Array Edge} {t : Tmp} {g : Option (Nat × Bool)}
variable {α β : Type} [DecidableEq α] {ek : α→DV} {ev : β→DV} {mt : TypeId} {i : TI} {ks : List (Option IntKind)} {n : Nat} {es : List (α × β)}
theorem qjo {x a : Operand} (c : q15 i.eagg ks ek) (z : β) (k : α) (p : Qn ops ⟨sl,hp,nx⟩ ⟨some t,.lookup mt x a false,ty,pos,af,g⟩ = some true) (q : T mt = some i) (b : i.keys = some ks) (j : i.ezero = [ev z])
    (m : AS.ev ⟨sl,hp,nx⟩ x = some (.mp n)) (o : AS.ev ⟨sl,hp,nx⟩ a = some (.d (ek k))) (hb : find hp n = some (.mp (mrow ek ev es)))
    (h : OpsK P T base ops dr l ⟨(t,.d (ev (Y7 z k es)))::sl,hp,nx⟩ K) (f : okO dr l.length ⟨sl,hp,nx⟩ (.lookup mt x a false) ⟨sl,hp,nx⟩ = true:=by rfl) : OpsK P T base ops dr (⟨some t,.lookup mt x a false,ty,pos,af,g⟩::l) ⟨sl,hp,nx⟩ K:=by
  refine Y8 p (v:=.d (ev (Y7 z k es))) (st1:=⟨sl,hp,nx⟩) ?_ h f;simp only [opFn,q,m,o,b,AS.blk,hb,j,qds c,if_true,qrg c,Option.map_some,Q3]
theorem qs5 {m a y : Operand} (c : q15 i.eagg ks ek) (k : α) (v : β) (r : Qn ops ⟨sl,hp,nx⟩ ⟨none,.mapUpdate mt m a y,ty,pos,af,g⟩ = some true) (s : T mt = some i) (b : i.keys = some ks)
    (j : AS.ev ⟨sl,hp,nx⟩ m = some (.mp n)) (q : AS.ev ⟨sl,hp,nx⟩ a = some (.d (ek k))) (o : AS.ev ⟨sl,hp,nx⟩ y = some (.d (ev v))) (hb : find hp n = some (.mp (mrow ek ev es))) (p : Ya (ev v) = true)
    (h : OpsK P T base ops dr l ⟨sl,repl hp n (.mp (mrow ek ev (Zg k v es))),nx⟩ K) (f : okO dr l.length ⟨sl,hp,nx⟩ (.mapUpdate mt m a y) ⟨sl,repl hp n (.mp (mrow ek ev (Zg k v es))),nx⟩ = true:=by rfl) : OpsK P T base ops dr (⟨none,.mapUpdate mt m a y,ty,pos,af,g⟩::l) ⟨sl,hp,nx⟩ K:=by
  refine Y8 r (v:=.dead) (st1:=⟨sl,repl hp n (.mp (mrow ek ev (Zg k v es))),nx⟩) ?_ h f;simp only [opFn,s,j,q,o,b,AS.blk,hb,qds c,p,and_self,if_true,qrj c,Option.map_some];rfl
theorem qjm {m a : Operand} {c : TypeId} (f : q15 i.eagg ks ek) (k : α) (q : Qn ops ⟨sl,hp,nx⟩ ⟨none,.call {callee:=.builtin .delete,args:=#[m,a],argTypes:=#[mt,c]},ty,pos,af,g⟩ = some true) (r : T mt = some i) (b : i.keys = some ks)
    (o : AS.ev ⟨sl,hp,nx⟩ m = some (.mp n)) (p : AS.ev ⟨sl,hp,nx⟩ a = some (.d (ek k))) (hb : find hp n = some (.mp (mrow ek ev es)))
    (h : OpsK P T base ops dr l ⟨sl,repl hp n (.mp (mrow ek ev (Yt k es))),nx⟩ K) (j : okO dr l.length ⟨sl,hp,nx⟩ (.call {callee:=.builtin .delete,args:=#[m,a],argTypes:=#[mt,c]}) ⟨sl,repl hp n (.mp (mrow ek ev (Yt k es))),nx⟩ = true:=by rfl) :
    OpsK P T base ops dr (⟨none,.call {callee:=.builtin .delete,args:=#[m,a],argTypes:=#[mt,c]},ty,pos,af,g⟩::l) ⟨sl,hp,nx⟩ K:=by
  refine Y8 q (v:=.d (.tup [])) (st1:=⟨sl,repl hp n (.mp (mrow ek ev (Yt k es))),nx⟩) ?_ h j;simp only [opFn,evL,o,p,Kz];simp only [List.getElem?_toArray,List.getElem?_cons_zero,r,AS.blk,hb,b,qds f,if_true,qre f,Option.map_some];rfl
theorem qs4 {α : Type} {c b : Operand} {f : TypeId} {i : TI} {k k' : IntKind} {n : Int} {z : α} {zs : List α} {enc : α→List DV} (a : mks i.ebytes n z = some zs) (p : Qn ops ⟨sl,hp,nx⟩ ⟨some t,.makeSlice f b c,ty,pos,af,g⟩ = some true) (r : T f = some i) (o : i.kind = .slice)
    (u : AS.ev ⟨sl,hp,nx⟩ b = some (.d (.int k n))) (m : AS.ev ⟨sl,hp,nx⟩ c = some (.d (.int k' n))) (q : enc z = i.ezero) (w : find hp nx = none)
    (h : OpsK P T base ops dr l ⟨(t,.d (.sl i.esize (zs.map enc)))::sl,hp,nx + 1⟩ K) (s : okF dr l.length (fp ⟨sl,hp,nx⟩ (.makeSlice f b c)) = true:=by rfl) : OpsK P T base ops dr (⟨some t,.makeSlice f b c,ty,pos,af,g⟩::l) ⟨sl,hp,nx⟩ K:=by
  unfold mks at a;split at a
  · rename_i j;cases a;have v : n.toNat = (List.replicate n.toNat i.ezero).length:=by simp
    refine q3n (es:=i.esize) (len:=n.toNat) (List.replicate n.toNat i.ezero) p ?_ v rfl w (by simpa [q] using h) s;simp only [opFn,r,u,m];rw [ql ⟨o,j.1,q0,by have:=j.2;simpa [room] using this⟩];rfl
  · cases a
end
end Go.Am
