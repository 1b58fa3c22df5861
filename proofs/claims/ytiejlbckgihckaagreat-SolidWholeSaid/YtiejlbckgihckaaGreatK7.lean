/- Lf3 Lf4 Lf5 Lf6 -/
import Derived.Test.YtiejlbckgihckaaGreatK6
namespace Go.Am
open Go
theorem RunK.toEv {P : Program} {T : Tab} {base : Nat} {c : Code} {st : AS} {K : Ex→AS→Prop} (h : RunK P T base [c] st K) : ∃ ex st',Ky P T base c st ex st'∧K ex st':=q5p h
section
variable {P : Program} {T : Tab} {base : Nat} {ops : Array Oper} {l : List Oper} {sl : List (Nat × V)} {hp : List (Nat × Blk)} {nx : Nat} {K : AS→Prop} {ty : TypeId} {pos : String} {af : Array Edge} {dst : Option Tmp} {g : Option (Nat × Bool)}
theorem q6e {β : Type} {c : Call} {f : FuncId} {fn : Func} {d : Code} (k : List V) (E : β→Prop) (S : β→AS) (n : Qt ops ⟨sl,hp,nx⟩ ⟨dst,.call c,ty,pos,af,g⟩ = some true) (x : callee ⟨sl,hp,nx⟩ c = some (f,k))
    (o : P.funcs[f]? = some fn) (hb : fn.body = some d) (a : (fn.name == "runtime.NumGoroutine") = false) (j : codeOk fn.ntmps d = true) (r : Nat.ble k.length fn.ntmps = true)
    (h : RunK P T nx [d] ⟨Y7 0 k,hp,nx⟩ (fun ex st'=>(ex = .nor∨ex = .ret)∧∃ v,resV T st' fn.results.toList = some v∧∃ b,E b∧WkE base ((⟨sl,st'.hp,st'.nx⟩ : AS).putD dst v) (S b)))
    (p : ∀ b,E b→OpsK P T base ops none l (S b) K) : OpsK P T base ops none (⟨dst,.call c,ty,pos,af,g⟩::l) ⟨sl,hp,nx⟩ K:=by
  obtain ⟨ex,st',e,s,v,t,b,m,u⟩:=h.toEv;obtain ⟨st2,y,q⟩:=p b m;obtain ⟨ρ,fz,ph,w⟩:=u;exact ⟨st2,.callS n rfl x (.mk o hb a j (by simpa using r) e s t) (.wk w y),q⟩
theorem q9j {β : Type} {c : Call} {gf : Operand} {n : Nat} {x : List V} {s : List (Nat × V)} {f : List Tmp} {assign body A B : Code} (E : β→Prop) (S : β→AS) (hA : assign = A) (hB : body = B) (hg : Qt ops ⟨sl,hp,nx⟩ ⟨dst,.call c,ty,pos,af,g⟩ = some true)
    (m : c.callee = .value gf) (r : AS.ev ⟨sl,hp,nx⟩ gf = some (.yld n)) (u : evL (AS.ev ⟨sl,hp,nx⟩) c.args.toList = some x) (hb : find hp n = some (.loop s f A B .ready none)) (hl : f.length = x.length)
    (h : RunK P T nx [assign] ⟨q2a s f x,hp,nx⟩ (fun ex st1=>ex = .nor∧∃ q,find st1.hp n = some (.loop q f A B .ready none)∧
      RunK P T nx [body] (st1.setBlk n (.loop q f A B .busy none)) (fun ex st2=>∃ j,find st2.hp n = some (.loop j f A B .busy none)∧match ex with
        | .nor=>∃ b,E b∧WkE base ((⟨sl,repl st2.hp n (.loop j f A B .ready none),st2.nx⟩ : AS).putD dst (.d (.bool true))) (S b)
        | ex=>OpsK P T base ops none l ((⟨sl,repl st2.hp n (.loop j f A B .done ex.code),st2.nx⟩ : AS).putD dst (.d (.bool false))) K)))
    (hr : ∀ b,E b→OpsK P T base ops none l (S b) K) : OpsK P T base ops none (⟨dst,.call c,ty,pos,af,g⟩::l) ⟨sl,hp,nx⟩ K:=by
  subst hA hB;obtain ⟨ae,st1,e1,rfl,q,v,k⟩:=h.toEv;obtain ⟨ex,st2,e2,j,z,y⟩:=k.toEv
  have key : ∀ a,Kl P T base ops none l ((⟨sl,repl st2.hp n (.loop j f assign body (if ex = .nor then .ready else .done) ex.code),st2.nx⟩ : AS).putD dst (.d (.bool (decide (ex = .nor))))) a→Kl P T base ops none (⟨dst,.call c,ty,pos,af,g⟩::l) ⟨sl,hp,nx⟩ a:=
    fun a h3=>.callY hg rfl m r u hb hl e1 v e2 z h3
  cases ex with
  | nor=>
    obtain ⟨b,t,ρ,fz,ph,w⟩:=y;obtain ⟨a,o,p⟩:=hr b t;exact ⟨a,key a (.wk w o),p⟩
  | exit i=>
    obtain ⟨a,o,p⟩:=y;exact ⟨a,key a o,p⟩
  | ret=>
    obtain ⟨a,o,p⟩:=y;exact ⟨a,key a o,p⟩
end
section
variable {P : Program} {T : Tab} {base : Nat} {cs : List Code} {sl : List (Nat × V)} {hp : List (Nat × Blk)} {nx : Nat} {K : Ex→AS→Prop}
def qe9 (P : Program) (T : Tab) (base : Nat) (cs : List Code) (K : Ex→AS→Prop) : Ex→AS→Prop:=qbb (fun st'=>RunK P T base cs st' K) K
theorem q9y {n : Operand} {m : Array Tmp} {assign body : Code} {f : FuncId} {fn : Func} {j : Code} (a : List V)
    (o : AS.ev ⟨sl,hp,nx⟩ n = some (.fn f a)∨∃ ds,AS.ev ⟨sl,hp,nx⟩ n = some (.d (.fn f ds))∧a = ds.map .d)
    (q : P.funcs[f]? = some fn) (hb : fn.body = some j) (g : (fn.name == "runtime.NumGoroutine") = false) (k : codeOk fn.ntmps j = true) (u : Nat.ble (a.length + 1) fn.ntmps = true)
    (h : ∀ A B,assign = A→body = B→RunK P T (nx + 1) [j] ⟨Y7 0 (.yld nx::a),(nx,.loop sl m.toList A B .ready none)::hp,nx + 1⟩ (fun c b=>(c = .nor∨c = .ret)∧∃ v,resV T b fn.results.toList = some v∧
      ∃ (s : List (Nat × V)) (l : LoopState) (ex : Ex),find b.hp nx = some (.loop s m.toList A B l ex.code)∧l≠.busy∧qe9 P T base cs K ex ⟨sl,repl b.hp nx .dead,b.nx⟩)) :
    RunK P T base (.rangeFunc n m assign body::cs) ⟨sl,hp,nx⟩ K:=by
  obtain ⟨c,b,e,x,v,w,s,l,ex,t,r,p⟩:=(h assign body rfl rfl).toEv;exact ⟨ex,_,.rangeF (pe:=ex.code) o (.mk q hb g k (by simpa using u) e x w) t r rfl,p⟩
theorem q8r {st : AS} (h : RunK P T base cs st K) : qe9 P T base cs K .nor st:=h
theorem qea {st : AS} (h : K .ret st) : qe9 P T base cs K .ret st:=h
end
inductive WvS (st : AS) (ρ : Nat→Nat) (fz ph : List Nat) (nx : Nat) : List (Nat × V)→List (Nat × V)→Prop
  | nil {s : List (Nat × V)} : WvS st ρ fz ph nx s []
  | cons {s s' : List (Nat × V)} {t : Nat} {v v' : V} : find s t = some v→Wv st ρ fz ph nx v v'→WvS st ρ fz ph nx s s'→WvS st ρ fz ph nx s ((t,v')::s')
theorem q140 {st : AS} {ρ : Nat→Nat} {fz ph : List Nat} {nx : Nat} {s b : List (Nat × V)} {f : List Tmp} {as c : Code} {d : LoopState} {pe : Option Code} (h : WvS st ρ fz ph nx s b) : Wb st ρ fz ph nx (.loop s f as c d pe) (.loop b f as c d pe):=by
  refine .loop fun t g a=>?_
  induction h with
  | nil=>simp [find] at a
  | @cons b t' v v'' h1 h2 _ ih=>
    simp only [find] at a
    cases hb : Nat.beq t' t with
    | true=>rw [hb] at a;cases a;obtain rfl:=Nat.eq_of_beq_eq_true hb;exact ⟨v,h1,h2⟩
    | false=>rw [hb] at a;exact ih a
theorem q135 {α : Type} {enc : α→List DV} {es : Nat} (a : ∀ x,(enc x).length = es) {xs : List α} {k : Nat} {v : α} (h : xs[k]? = some v) : sub (xs.flatMap enc) (k * es) es = some (enc v):=by
  induction xs generalizing k with
  | nil=>simp at h
  | cons x xs ih=>
    cases k with
    | zero=>
      simp at h;subst h;have:=a x;simp [sub,List.flatMap_cons,this]
    | succ k=>
      have f : xs[k]? = some v:=by simpa using h
      have:=ih f;unfold sub at this ⊢;have d:=a x;have c : (k + 1) * es = (enc x).length + k * es:=by rw [Nat.succ_mul,d];omega
      rw [List.flatMap_cons,c];split at this
      · rename_i b;rw [qr (by rw [List.length_append];omega),← List.drop_drop,List.drop_left];exact this
      · cases this
theorem q12u {α : Type} {enc : α→List DV} {es : Nat} (a : ∀ x,(enc x).length = es) {xs : List α} {k : Nat} {v : α} (h : k < xs.length) : splice (xs.flatMap enc) (k * es) (enc v) = (xs.set k v).flatMap enc:=by
  induction xs generalizing k with
  | nil=>simp at h
  | cons x xs ih=>
    have b:=a x;have c:=a v
    cases k with
    | zero=>
      simp only [splice,Nat.zero_mul,List.take_zero,List.nil_append,Nat.zero_add,List.flatMap_cons,List.set_cons_zero];rw [c,← b,List.drop_left]
    | succ k=>
      have:=ih (k:=k) (by simpa using h);simp only [splice] at this ⊢;have d : (k + 1) * es = (enc x).length + k * es:=by rw [Nat.succ_mul,b];omega
      rw [List.flatMap_cons,List.set_cons_succ,List.flatMap_cons,d,← this];rw [List.take_length_add_append,show (enc x).length + k * es + (enc v).length = (enc x).length + (k * es + (enc v).length) by omega,← List.drop_drop,List.drop_left];simp [List.append_assoc]
theorem qsn {α : Type} {enc : α→List DV} {es : Nat} (a : ∀ x,(enc x).length = es) (xs : List α) : (xs.flatMap enc).length = xs.length * es:=by
  induction xs with
  | nil=>simp
  | cons x xs ih=>rw [List.flatMap_cons,List.length_append,a,ih,List.length_cons,Nat.succ_mul];omega
def idxA {α : Type} (n : Nat) (xs : List α) (i : Int) : Option α:=if 0≤i∧i < n then xs[i.toNat]? else none
def andI (k : IntKind) (x y : Int) : Int:=k.wrap (BitVec.ofInt k.bits x &&& BitVec.ofInt k.bits y).toNat
def xorI (k : IntKind) (x y : Int) : Int:=k.wrap (BitVec.ofInt k.bits x ^^^ BitVec.ofInt k.bits y).toNat
section
variable {P : Program} {T : Tab} {base : Nat} {ops : Array Oper} {dr : Dr} {l : List Oper} {sl : List (Nat × V)} {hp : List (Nat × Blk)} {nx : Nat} {K : AS→Prop} {ty : TypeId} {pos : String} {af : Array Edge} {t : Tmp} {g : Option (Nat × Bool)}
theorem qfr {α : Type} {n : Nat} {xs : List α} {i : Int} {v : α} (h : idxA n xs i = some v) : 0≤i∧i < n∧xs[i.toNat]? = some v:=by
  unfold idxA at h;split at h
  · rename_i a;exact ⟨a.1,a.2,h⟩
  · cases h
theorem qck {α : Type} {x y : Operand} {a : TypeId} {i : TI} {k : IntKind} {n : Int} {m es : Nat} {v : α} {xs : List α} (o : idxA i.len xs n = some v) (r : Qt ops ⟨sl,hp,nx⟩ ⟨some t,.indexAddr a x y,ty,pos,af,g⟩ = some true) (f : T a = some i)
    (q : AS.ev ⟨sl,hp,nx⟩ x = some (.ref m es 0 0)) (c : AS.ev ⟨sl,hp,nx⟩ y = some (.d (.int k n))) (p : i.kind = .array)
    (h : OpsK P T base ops dr l ⟨(t,.ref m es 0 (n.toNat * i.esize))::sl,hp,nx⟩ K) : OpsK P T base ops dr (⟨some t,.indexAddr a x y,ty,pos,af,g⟩::l) ⟨sl,hp,nx⟩ K:=by
  obtain ⟨j,b,_⟩:=qfr o;exact Ya r (v:=.ref m es 0 (n.toNat * i.esize)) (st1:=⟨sl,hp,nx⟩) (by simp [opFn,q,c,f,q42,p,j,b]) h (Jo rfl)
theorem qgh {α : Type} {p : Operand} {a : TypeId} {i : TI} {m es sz c : Nat} {n : Int} {xs : List α} {enc : α→List DV} {v : α} (w : V) (k : idxA c xs n = some v) (b : ∀ x,(enc x).length = sz) (r : Qt ops ⟨sl,hp,nx⟩ ⟨some t,.load a p,ty,pos,af,g⟩ = some true) (f : T a = some i)
    (q : AS.ev ⟨sl,hp,nx⟩ p = some (.ref m es 0 (n.toNat * sz))) (hb : find hp m = some (.dat es [xs.flatMap enc])) (hs : sz = i.size) (o : (q26 i.agg (enc v)).map .d = some w)
    (h : OpsK P T base ops dr l ⟨(t,w)::sl,hp,nx⟩ K) (j : okF dr l.length (fp ⟨sl,hp,nx⟩ (.load a p)) = true:=by rfl) : OpsK P T base ops dr (⟨some t,.load a p,ty,pos,af,g⟩::l) ⟨sl,hp,nx⟩ K:=
  qm4 r f q hb rfl (by rw [← hs];exact q135 b (qfr k).2.2) o h j
theorem qv5 {α : Type} {p x : Operand} {k : TypeId} {i : TI} {m es sz r : Nat} {n : Int} {xs : List α} {enc : α→List DV} {v : α} (j : α) {u : V} (y : idxA r xs n = some v) (a : ∀ x,(enc x).length = sz) (s : Qt ops ⟨sl,hp,nx⟩ ⟨none,.store k p x,ty,pos,af,g⟩ = some true) (t : T k = some i)
    (hp' : AS.ev ⟨sl,hp,nx⟩ p = some (.ref m es 0 (n.toNat * sz))) (hx : AS.ev ⟨sl,hp,nx⟩ x = some u) (hb : find hp m = some (.dat es [xs.flatMap enc])) (hs : sz = i.size) (q : cellsOf u = (enc j).map .d) (z : (enc j).all Yg = true)
    (h : OpsK P T base ops dr l ⟨sl,repl hp m (.dat es [(xs.set n.toNat j).flatMap enc]),nx⟩ K) (w : okO dr l.length ⟨sl,hp,nx⟩ (.store k p x) ⟨sl,repl hp m (.dat es [(xs.set n.toNat j).flatMap enc]),nx⟩ = true:=by rfl) : OpsK P T base ops dr (⟨none,.store k p x,ty,pos,af,g⟩::l) ⟨sl,hp,nx⟩ K:=by
  have c:=Kc (qfr y).2.2;refine Ya s (v:=.dead) (st1:=⟨sl,repl hp m (.dat es [(xs.set n.toNat j).flatMap enc]),nx⟩) ?_ h w;have f : (cellsOf u).all Kh = true:=by rw [q,List.all_map];exact z
  have b : (cellsOf u).length = i.size:=by rw [q,List.length_map,a];exact hs
  have o : n.toNat * sz + i.size≤(xs.flatMap enc).length:=by
    rw [qsn a,← hs,← Nat.succ_mul];exact Nat.mul_le_mul_right _ c
  simp only [opFn,t,hp',hx,Ju,AS.blk,hb,Nat.beq_refl];rw [qq (by simp [f,b])];simp only [List.getElem?_cons_zero];rw [qr o,q,qeb];simp only [q12u a c,AS.setBlk,List.set_cons_zero];rfl
theorem qe1 {α : Type} {st : AS} {ρ : Nat→Nat} {fz ph : List Nat} {nx n es : Nat} {w : Nat × Nat} {ys : List α} {enc : α→List DV} (a : w.1 + w.2≤ys.length) (hb : st.blk n = some (.dat es (ys.map enc))) (b : n∈fz) : Wv st ρ fz ph nx (.hs n es w.1 w.2) (.d (.sl es (((ys.drop w.1).take w.2).map enc))):=
  .frz hb b (by simpa using a) (by rw [List.map_take,List.map_drop]) rfl
theorem qpt {hp : List (Nat × Blk)} {a : List V} {ds C : List DV} (h : Ko hp a = some ds) : Ko hp (a ++ C.map .d) = some (ds ++ C):=by
  induction a generalizing ds with
  | nil=>
    simp [Ko] at h;subst h
    induction C with
    | nil=>rfl
    | cons c C ih=>
      simp only [List.nil_append,List.map_cons] at ih ⊢;simp only [Ko];rw [show toD hp 8 (.d c) = some c from rfl,ih]
  | cons v a ih=>
    simp only [Ko] at h;split at h <;> simp at h
    rename_i x l f b;subst h;simp only [List.cons_append,Ko,f,ih b]
theorem qso {a : List V} {C : List DV} : fpC (a ++ C.map .d) = fpC a:=by
  unfold fpC;have : (C.map V.d).all V.isD = true:=by rw [List.all_map];simp [V.isD]
  rw [List.all_append,this,Bool.and_true]
theorem Ys {c : Call} {f : FuncId} {C ds : List DV} {r : DV} (a : List V) (b : Pure P T f (ds ++ C) r) (j : Qt ops ⟨sl,hp,nx⟩ ⟨some t,.call c,ty,pos,af,g⟩ = some true) (m : callee ⟨sl,hp,nx⟩ c = some (f,a ++ C.map .d)) (hd : Ko hp a = some ds)
    (hs : (a.all V.isD = true∨r.scalar = true)) (h : OpsK P T base ops dr l ⟨(t,.d r)::sl,hp,nx⟩ K) (k : okF dr l.length (fpC a) = true:=by rfl) : OpsK P T base ops dr (⟨some t,.call c,ty,pos,af,g⟩::l) ⟨sl,hp,nx⟩ K:=by
  refine qm2 j rfl m (qpt hd) ?_ b h (by rw [qso];exact k);rcases hs with hs | hs
  · left;rw [List.all_append,hs,Bool.true_and,List.all_map];simp [V.isD]
  · exact .inr hs
end
end Go.Am
namespace Go.Am
open Go
theorem Yi {base : Nat} {st st' : AS} (l : List (Nat × Nat)) (fz ph : List Nat) (g : wkOk base l fz ph st'.hp st'.nx = true) (hs : WkL st (rho l) fz ph st'.nx st'.sl) (s : WkH st (rho l) fz ph st'.nx st'.hp) : Wk base (rho l) fz ph st st':=by
  simp only [wkOk,Bool.and_eq_true,Nat.ble_eq,List.all_eq_true] at g;obtain ⟨⟨⟨⟨r,q⟩,p⟩,v⟩,o⟩:=g;refine ⟨?_,?_,?_,?_,?_,r,?_,?_⟩
  · exact fun t y h=>hs.get (J6 h)
  · exact fun n x h=>s.get (J6 h)
  · intro n m b c a j d k u;have:=o _ (J6 a);simp only [Bool.or_eq_true,Bool.and_eq_true,q6a,List.all_eq_true,Bool.not_eq_true'] at this;rcases this with h | h
    · exact absurd h d
    · have:=h.2 _ (J6 j);rcases this with (f | f) | f
      · exact absurd f k
      · rw [u] at f;simp at f
      · exact Nat.eq_of_beq_eq_true f
  · intro n b a d w;have:=o _ (J6 a);simp only [Bool.or_eq_true,Bool.and_eq_true,q6a,Bool.not_eq_true'] at this;rcases this with h | h
    · exact absurd h d
    · rw [q6a.2 w] at h;exact absurd h.1 qd
  · intro n a;unfold rho;split
    · rename_i m j;have:=q _ (J6 j);simp at this;omega
    · rfl
  · exact fun n a=>p n a
  · exact fun n a=>v n a
def q8t (l l3 : List (Nat × Nat)) (k k' nx nxN : Nat) : Bool:=
  (List.range k).all (fun i=>Nat.blt (rho l i) nx && Nat.beq (rho l3 (rho l i)) i) && (List.range nx).all (fun m=>(Nat.blt (rho l3 m) k && Nat.beq (rho l (rho l3 m)) m) || Nat.ble k' (rho l3 m)) && Nat.ble nx nxN
def OldL (l : List (Nat × Nat)) (k : Nat) (hp hpR : List (Nat × Blk)) : List (Nat × Blk)→Prop
  | []=>True
  | (m,b)::r=>(find hpR m = some b∨(find hp m = some b∧(List.range k).all (fun i=>!(Nat.beq (rho l i) m)) = true))∧OldL l k hp hpR r
theorem OldL.get {l : List (Nat × Nat)} {k : Nat} {hp a : List (Nat × Blk)} : ∀ {r : List (Nat × Blk)},OldL l k hp a r→∀ m b,(m,b)∈r→find a m = some b∨(find hp m = some b∧∀ i,i < k→rho l i≠m)
  | [],_,m,b,h=>by cases h
  | (m',b')::r,h,m,b,c=>by
    rcases List.mem_cons.1 c with e | c
    · cases e
      refine h.1.imp (fun x=>x) fun ⟨d,h2⟩=>⟨d,fun i hi e=>?_⟩
      have:=List.all_eq_true.1 h2 i (List.mem_range.2 hi)
      rw [e] at this;simp at this
    · exact OldL.get h.2 m b c
section
variable {P : Program} {T : Tab} {base : Nat} {ops : Array Oper} {l : List Oper} {sl : List (Nat × V)} {hp : List (Nat × Blk)} {nx : Nat} {K : AS→Prop} {ty : TypeId} {pos : String} {af : Array Edge} {dst : Option Tmp} {g : Option (Nat × Bool)}
theorem Ua {c : Call} {f : FuncId} {j : List V} {hp0 o : List (Nat × Blk)} {k s : Nat} {vR : V} (w x : List (Nat × Nat)) (v : List V) (y : V) (a q : List (Nat × Blk)) (d : Nat) (he : K8 P T f j hp0 k vR o s) (z : Qt ops ⟨sl,hp,nx⟩ ⟨dst,.call c,ty,pos,af,g⟩ = some true) (hc : callee ⟨sl,hp,nx⟩ c = some (f,v)) (p : v.length = j.length)
    (u : Wk 0 (rho w) [] [] ⟨Y7 0 v,hp,nx⟩ ⟨Y7 0 j,hp0,k⟩) (t : Wk 0 (rho x) [] [] ⟨[(0,vR)],o,s⟩ ⟨[(0,y)],a,d⟩) (hb : q8t w x k s nx d = true) (hold : OldL w k hp a q)
    (h : OpsK P T base ops none l ((⟨sl,q,d⟩ : AS).putD dst y) K) : OpsK P T base ops none (⟨dst,.call c,ty,pos,af,g⟩::l) ⟨sl,hp,nx⟩ K:=by
  obtain ⟨st2,e2,k2⟩:=h;refine ⟨st2,.callF z rfl hc p u he t ⟨?_,?_,?_,?_,?_⟩ e2,k2⟩
  · intro i hi;simp only [q8t,Bool.and_eq_true,List.all_eq_true,List.mem_range] at hb;have:=hb.1.1 i hi;exact ⟨by simpa [Nat.blt_eq] using this.1,Nat.eq_of_beq_eq_true this.2⟩
  · intro m r;simp only [q8t,Bool.and_eq_true,List.all_eq_true,List.mem_range,Bool.or_eq_true] at hb;rcases hb.1.2 m r with n | n
    · exact .inl ⟨by simpa [Nat.blt_eq] using n.1,Nat.eq_of_beq_eq_true n.2⟩
    · exact .inr (by simpa using n)
  · intro m r;cases r
  · exact fun m b n=>hold.get m b (J6 n)
  · simp only [q8t,Bool.and_eq_true] at hb;simpa using hb.2
end
theorem Kr {P : Program} {T : Tab} {f : FuncId} {fn : Func} {c : Code} {g : List V} {hp b : List (Nat × Blk)} {nx j : Nat} {vR : V} (k : P.funcs[f]? = some fn) (hb : fn.body = some c) (a : (fn.name == "runtime.NumGoroutine") = false) (d : codeOk fn.ntmps c = true) (l : Nat.ble g.length fn.ntmps = true)
    (h : RunK P T nx [c] ⟨Y7 0 g,hp,nx⟩ (fun ex st=>(ex = .nor∨ex = .ret)∧∃ v,resV T st fn.results.toList = some v∧WkE nx ⟨[(0,v)],st.hp,st.nx⟩ ⟨[(0,vR)],b,j⟩)) : K8 P T f g hp nx vR b j:=by
  obtain ⟨ex,st',e,m,v,n,ρ,fz,ph,w⟩:=q5p h;exact .wk (.mk k hb a d (by simpa using l) e m n) w
def shlK (k : IntKind) (x y : Int) : Option Int:=if y < 0 then none else some (k.wrap (x * 2 ^ (min y.toNat k.bits)))
section
variable {P : Program} {T : Tab} {base : Nat} {ops : Array Oper} {dr : Dr} {l : List Oper} {sl : List (Nat × V)} {hp : List (Nat × Blk)} {nx : Nat} {K : AS→Prop} {ty : TypeId} {pos : String} {af : Array Edge} {t : Tmp} {g : Option (Nat × Bool)}
theorem qv2 {x y : Operand} {j f : TypeId} {a b r : Int} {k k' : IntKind} (c : shlK k a b = some r) (o : Qt ops ⟨sl,hp,nx⟩ ⟨some t,.binOp .shl j x y f,ty,pos,af,g⟩ = some true) (m : AS.ev ⟨sl,hp,nx⟩ x = some (.d (.int k a))) (n : AS.ev ⟨sl,hp,nx⟩ y = some (.d (.int k' b)))
    (h : OpsK P T base ops dr l ⟨(t,.d (.int k r))::sl,hp,nx⟩ K) : OpsK P T base ops dr (⟨some t,.binOp .shl j x y f,ty,pos,af,g⟩::l) ⟨sl,hp,nx⟩ K:=by
  unfold shlK at c;split at c
  · cases c
  · rename_i p;cases c;exact Ya o (v:=.d (.int k (k.wrap (a * 2 ^ (min b.toNat k.bits))))) (st1:=⟨sl,hp,nx⟩) (by simp [opFn,m,n,binD,qa0,p]) h (Jo rfl)
end
def K1 (n m : Nat) : Option Unit:=if n = m then some () else none
theorem Kk {n m : Nat} {u : Unit} (h : K1 n m = some u) : n = m:=by
  unfold K1 at h;split at h
  · assumption
  · cases h
def q5e (s : ByteArray) (i : Int) : Option Int:=(if 0≤i then s[i.toNat]? else none).map fun b=>(b.toNat : Int)
theorem quv {P : Program} {T : Tab} {base : Nat} {ops : Array Oper} {dr : Dr} {l : List Oper} {sl : List (Nat × V)} {hp : List (Nat × Blk)} {nx : Nat} {K : AS→Prop} {ty : TypeId} {pos : String} {af : Array Edge} {t : Tmp} {g : Option (Nat × Bool)} {x y : Operand} {a : TypeId} {i : TI} {k : IntKind} {n v : Int} (s : ByteArray) (c : q5e s n = some v) (p : Qt ops ⟨sl,hp,nx⟩ ⟨some t,.index a x y,ty,pos,af,g⟩ = some true) (j : T a = some i)
    (m : AS.ev ⟨sl,hp,nx⟩ x = some (.d (.str s))) (f : AS.ev ⟨sl,hp,nx⟩ y = some (.d (.int k n))) (o : i.kind = .str)
    (h : OpsK P T base ops dr l ⟨(t,.d (.int .u8 v))::sl,hp,nx⟩ K) : OpsK P T base ops dr (⟨some t,.index a x y,ty,pos,af,g⟩::l) ⟨sl,hp,nx⟩ K:=by
  unfold q5e at c;rw [Y6] at c;obtain ⟨b,hb,rfl⟩:=c;refine Ya p (v:=.d (.int .u8 b.toNat)) (st1:=⟨sl,hp,nx⟩) ?_ h (Jo rfl);simp only [opFn,j,m,f,o,hb,Option.map_some]
open Classical in
noncomputable def lim {α : Type} (f : Nat→Option α) : Option α:=if h : ∃ r n,f n = some r then some h.choose else none
theorem qfw {α : Type} {f : Nat→Option α} {r : α} (h : lim f = some r) : ∃ n,f n = some r:=by
  unfold lim at h;split at h
  · rename_i a;cases h;exact a.choose_spec
  · cases h
theorem qtx {α : Type} {f : Nat→Option α} {n : Nat} {r : α} (h : f n = some r) : ∃ a,lim f = some a:=by
  unfold lim;rw [dif_pos ⟨r,n,h⟩];exact ⟨_,rfl⟩
theorem Yn {P : Program} {T : Tab} {base : Nat} {c : Code} {cs : List Code} {st : AS} {K : Ex→AS→Prop} (h : RunK P T base (c::.loop c::cs) st K) : RunK P T base (.loop c::cs) st K:=by
  obtain ⟨ex,st1,b,a⟩:=h
  cases ex with
  | nor=>
    obtain ⟨d,st2,g,f⟩:=a;exact ⟨d,st2,.loopN b g,f⟩
  | exit i=>exact ⟨_,_,.loopX b qd,a⟩
  | ret=>exact ⟨_,_,.loopX b qd,a⟩
def idxW {α : Type} (xs : List α) (w : Nat × Nat) (k : Int) : Option α:=if 0≤k∧k < w.2 then xs[w.1 + k.toNat]? else none
theorem qfs {α : Type} {xs : List α} {w : Nat × Nat} {k : Int} {v : α} (h : idxW xs w k = some v) : idx xs ((w.1 : Int) + k) = some v:=by
  unfold idxW at h;split at h
  · rename_i a;unfold idx;rw [qr q0];rw [show ((w.1 : Int) + k).toNat = w.1 + k.toNat by omega];exact h
  · cases h
def q1j (n : Nat) (w : Nat × Nat) : Option Unit:=if w.1 + w.2≤n then some () else none
theorem qdz {n : Nat} {w : Nat × Nat} {u : Unit} (h : q1j n w = some u) : w.1 + w.2≤n:=by
  unfold q1j at h;split at h
  · assumption
  · cases h
def clrw {α : Type} (xs : List α) (w : Nat × Nat) (z : α) : List α:=splice xs w.1 (List.replicate w.2 z)
theorem qiy {α : Type} {xs : List α} {w : Nat × Nat} {z : α} (h : w.1 + w.2≤xs.length) : (clrw xs w z).length = xs.length:=by
  unfold clrw splice;simp;omega
section
variable {P : Program} {T : Tab} {base : Nat} {ops : Array Oper} {dr : Dr} {l : List Oper} {sl : List (Nat × V)} {hp : List (Nat × Blk)} {nx : Nat} {K : AS→Prop} {ty : TypeId} {pos : String} {af : Array Edge} {t : Tmp} {g : Option (Nat × Bool)}
theorem qgg {α : Type} {x y : Operand} {a : TypeId} {i : TI} {k : IntKind} {n : Int} {m es : Nat} {xs : List α} {w : Nat × Nat} {v : α} (b : idxW xs w n = some v) (r : Qt ops ⟨sl,hp,nx⟩ ⟨some t,.indexAddr a x y,ty,pos,af,g⟩ = some true) (j : T a = some i)
    (q : AS.ev ⟨sl,hp,nx⟩ x = some (.hs m es w.1 w.2)) (f : AS.ev ⟨sl,hp,nx⟩ y = some (.d (.int k n))) (p : i.kind = .slice) (o : es = i.esize)
    (h : OpsK P T base ops dr l ⟨(t,.ref m es ((w.1 : Int) + n).toNat 0)::sl,hp,nx⟩ K) : OpsK P T base ops dr (⟨some t,.indexAddr a x y,ty,pos,af,g⟩::l) ⟨sl,hp,nx⟩ K:=by
  have c : 0≤n∧n < w.2:=by
    unfold idxW at b;split at b
    · assumption
    · cases b
  refine qus r j q f p o c.1 c.2 ?_;rw [show ((w.1 : Int) + n).toNat = w.1 + n.toNat by omega] at h;exact h
theorem quq {α : Type} {x : Operand} {a : TypeId} {i : TI} {n es : Nat} {xs : List α} {enc : α→List DV} (z : α) {w : Nat × Nat} (m : w.1 + w.2≤xs.length) (p : Qt ops ⟨sl,hp,nx⟩ ⟨none,.call {callee:=.builtin .clear,args:=#[x],argTypes:=#[a]},ty,pos,af,g⟩ = some true) (b : T a = some i)
    (j : AS.ev ⟨sl,hp,nx⟩ x = some (.hs n es w.1 w.2)) (hb : find hp n = some (.dat es (xs.map enc))) (k : i.kind = .slice) (f : i.esize = es) (o : i.ezero = enc z)
    (h : OpsK P T base ops dr l ⟨sl,repl hp n (.dat es ((clrw xs w z).map enc)),nx⟩ K) (c : okO dr l.length ⟨sl,hp,nx⟩ (.call {callee:=.builtin .clear,args:=#[x],argTypes:=#[a]}) ⟨sl,repl hp n (.dat es ((clrw xs w z).map enc)),nx⟩ = true:=by rfl) :
    OpsK P T base ops dr (⟨none,.call {callee:=.builtin .clear,args:=#[x],argTypes:=#[a]},ty,pos,af,g⟩::l) ⟨sl,hp,nx⟩ K:=by
  subst f;refine Ya p (v:=.d (.tup [])) (st1:=⟨sl,repl hp n (.dat i.esize ((clrw xs w z).map enc)),nx⟩) ?_ h c;simp only [opFn,evL,j,Y5];simp only [List.getElem?_toArray,List.getElem?_cons_zero,b];rw [qr ⟨k,by simp [J5]⟩];simp only [U5,AS.blk,hb];rw [qr ⟨by simpa using m,trivial⟩,o];simp [clrw,splice,AS.setBlk]
end
section
variable {P : Program} {T : Tab} {base : Nat} {ops : Array Oper} {dr : Dr} {l : List Oper} {sl : List (Nat × V)} {hp : List (Nat × Blk)} {nx : Nat} {K : AS→Prop} {ty : TypeId} {pos : String} {af : Array Edge} {t : Tmp} {g : Option (Nat × Bool)}
end
end Go.Am
namespace Go.Am
open Go
theorem J {α : Sort _} {a : α} : a = a:=rfl
abbrev qg (n : Int) : DV:=.int .i64 n
abbrev q7 (n : Int) : V:=.d (.int .i64 n)
abbrev Q0 (b : Bool) : V:=.d (.bool b)
section
variable {P : Program} {T : Tab} {base : Nat} {ops : Array Oper} {dr : Dr} {l : List Oper} {sl : List (Nat × V)} {hp : List (Nat × Blk)} {nx : Nat} {K : AS→Prop} {ty : TypeId} {pos : String} {af : Array Edge} {t : Tmp} {g : Option (Nat × Bool)} {v : V}
theorem U {x : Operand} (a : (Qt ops ⟨sl,hp,nx⟩ ⟨some t,.move x,ty,pos,af,g⟩,AS.ev ⟨sl,hp,nx⟩ x) = (some true,some v))
    (h : OpsK P T base ops dr l ⟨(t,v)::sl,hp,nx⟩ K) : OpsK P T base ops dr (⟨some t,.move x,ty,pos,af,g⟩::l) ⟨sl,hp,nx⟩ K:=qgi (Prod.mk.inj a).1 (Prod.mk.inj a).2 h
theorem qa {x : Operand} (a : (Qt ops ⟨sl,hp,nx⟩ ⟨some t,.assign x,ty,pos,af,g⟩,AS.ev ⟨sl,hp,nx⟩ x) = (some true,some v))
    (h : OpsK P T base ops dr l ⟨(t,v)::sl,hp,nx⟩ K) : OpsK P T base ops dr (⟨some t,.assign x,ty,pos,af,g⟩::l) ⟨sl,hp,nx⟩ K:=qup (Prod.mk.inj a).1 (Prod.mk.inj a).2 h
theorem O {op : Op} (v : V) (a : (Qt ops ⟨sl,hp,nx⟩ ⟨some t,op,ty,pos,af,g⟩,opFn T ⟨sl,hp,nx⟩ op) = (some true,some (v,⟨sl,hp,nx⟩))) (h : OpsK P T base ops dr l ⟨(t,v)::sl,hp,nx⟩ K)
    (b : okO dr l.length ⟨sl,hp,nx⟩ (op) ⟨sl,hp,nx⟩ = true:=by rfl) : OpsK P T base ops dr (⟨some t,op,ty,pos,af,g⟩::l) ⟨sl,hp,nx⟩ K:=qv7 v (Prod.mk.inj a).1 (Prod.mk.inj a).2 h b
theorem Qi {op : Op} (n : Nat) (b : Blk) (a : (Qt ops ⟨sl,hp,nx⟩ ⟨none,op,ty,pos,af,g⟩,opFn T ⟨sl,hp,nx⟩ op) = (some true,some (.dead,⟨sl,repl hp n b,nx⟩))) (h : OpsK P T base ops dr l ⟨sl,repl hp n b,nx⟩ K) (c : okO dr l.length ⟨sl,hp,nx⟩ (op) ⟨sl,repl hp n b,nx⟩ = true:=by rfl) : OpsK P T base ops dr (⟨none,op,ty,pos,af,g⟩::l) ⟨sl,hp,nx⟩ K:=
  qv6 n b (Prod.mk.inj a).1 (Prod.mk.inj a).2 h c
theorem Qs {op : Op} (v : V) (b : Blk) (a : (Qt ops ⟨sl,hp,nx⟩ ⟨some t,op,ty,pos,af,g⟩,opFn T ⟨sl,hp,nx⟩ op) = (some true,some (v,⟨sl,(nx,b)::hp,nx + 1⟩))) (h : OpsK P T base ops dr l ⟨(t,v)::sl,(nx,b)::hp,nx + 1⟩ K) (c : okO dr l.length ⟨sl,hp,nx⟩ (op) ⟨sl,(nx,b)::hp,nx + 1⟩ = true:=by rfl) : OpsK P T base ops dr (⟨some t,op,ty,pos,af,g⟩::l) ⟨sl,hp,nx⟩ K:=
  qv0 v b (Prod.mk.inj a).1 (Prod.mk.inj a).2 h c
theorem q6f {α : Type} {x : Operand} {a : TypeId} {i : TI} {es : Nat} {xs : List α} {enc : α→List DV} (n : Int) (k : (xs.length : Int) = n) (b : Qt ops ⟨sl,hp,nx⟩ ⟨some t,.call {callee:=.builtin .len,args:=#[x],argTypes:=#[a]},ty,pos,af,g⟩ = some true) (f : T a = some i) (c : i.kind = .slice) (j : AS.ev ⟨sl,hp,nx⟩ x = some (.d (.sl es (xs.map enc))))
    (h : OpsK P T base ops dr l ⟨(t,.d (.int .i64 n))::sl,hp,nx⟩ K) : OpsK P T base ops dr (⟨some t,.call {callee:=.builtin .len,args:=#[x],argTypes:=#[a]},ty,pos,af,g⟩::l) ⟨sl,hp,nx⟩ K:=by
  subst k;exact qm6 b f c j h
theorem Qh {α : Type} {x y : Operand} {a : TypeId} {i : TI} {k : IntKind} {n : Int} {es : Nat} {xs : List α} {enc : α→List DV} {v : α} (p : idx xs n = some v)
    (b : (Qt ops ⟨sl,hp,nx⟩ ⟨some t,.indexAddr a x y,ty,pos,af,g⟩,T a,AS.ev ⟨sl,hp,nx⟩ x,AS.ev ⟨sl,hp,nx⟩ y,i.kind,es) = (some true,some i,some (.d (.sl es (xs.map enc))),some (.d (.int k n)),.slice,i.esize))
    (h : OpsK P T base ops dr l ⟨(t,.dref (enc v) 0)::sl,hp,nx⟩ K) : OpsK P T base ops dr (⟨some t,.indexAddr a x y,ty,pos,af,g⟩::l) ⟨sl,hp,nx⟩ K:=by
  simp only [Prod.mk.injEq] at b;obtain ⟨m,f,c,o,q,j⟩:=b;exact quu p m f c o q j h
theorem qx {α : Type} {x y : Operand} {a : TypeId} {i : TI} {k : IntKind} {n : Int} {m es len : Nat} {xs : List α} {v : α} (r : idx xs n = some v) (p : len = xs.length)
    (b : (Qt ops ⟨sl,hp,nx⟩ ⟨some t,.indexAddr a x y,ty,pos,af,g⟩,T a,AS.ev ⟨sl,hp,nx⟩ x,AS.ev ⟨sl,hp,nx⟩ y,i.kind,es) = (some true,some i,some (.hs m es 0 len),some (.d (.int k n)),.slice,i.esize))
    (h : OpsK P T base ops dr l ⟨(t,.ref m es n.toNat 0)::sl,hp,nx⟩ K) : OpsK P T base ops dr (⟨some t,.indexAddr a x y,ty,pos,af,g⟩::l) ⟨sl,hp,nx⟩ K:=by
  simp only [Prod.mk.injEq] at b;obtain ⟨o,f,c,q,s,j⟩:=b;exact qut r p o f c q s j h
theorem Qd {α : Type} {p : Operand} {a : TypeId} {i : TI} {m es j : Nat} {n : Int} {xs : List α} {enc : α→List DV} {r : List DV} {v : α} (w : V) (u : idx xs n = some v)
    (b : (Qt ops ⟨sl,hp,nx⟩ ⟨some t,.load a p,ty,pos,af,g⟩,T a,AS.ev ⟨sl,hp,nx⟩ p,find hp m,sub (enc v) j i.size,(q26 i.agg r).map V.d) = (some true,some i,some (.ref m es n.toNat j),some (.dat es (xs.map enc)),some r,some w))
    (h : OpsK P T base ops dr l ⟨(t,w)::sl,hp,nx⟩ K) (q : okF dr l.length (fp ⟨sl,hp,nx⟩ (.load a p)) = true:=by rfl) : OpsK P T base ops dr (⟨some t,.load a p,ty,pos,af,g⟩::l) ⟨sl,hp,nx⟩ K:=by
  simp only [Prod.mk.injEq] at b;obtain ⟨o,f,c,s,x,k⟩:=b;exact qux w u o f c s x k h q
theorem Qr {α : Type} {x : Operand} {a : TypeId} {i : TI} {es : Nat} {xs : List α} {enc : α→List DV}
    (b : (Qt ops ⟨sl,hp,nx⟩ ⟨some t,.call {callee:=.builtin .len,args:=#[x],argTypes:=#[a]},ty,pos,af,g⟩,T a,i.kind,AS.ev ⟨sl,hp,nx⟩ x) = (some true,some i,.slice,some (.d (.sl es (xs.map enc)))))
    (h : OpsK P T base ops dr l ⟨(t,.d (.int .i64 (xs.length : Int)))::sl,hp,nx⟩ K) : OpsK P T base ops dr (⟨some t,.call {callee:=.builtin .len,args:=#[x],argTypes:=#[a]},ty,pos,af,g⟩::l) ⟨sl,hp,nx⟩ K:=by
  simp only [Prod.mk.injEq] at b;obtain ⟨k,f,c,j⟩:=b;exact qm6 k f c j h
theorem Q4 {c : Call} {f : FuncId} {ds : List DV} {r : DV} {a : List V} (b : Pure P T f ds r) (j : (Qt ops ⟨sl,hp,nx⟩ ⟨some t,.call c,ty,pos,af,g⟩,callee ⟨sl,hp,nx⟩ c,Ko hp a,a.all V.isD) = (some true,some (f,a),some ds,true))
    (h : OpsK P T base ops dr l ⟨(t,.d r)::sl,hp,nx⟩ K) (n : okF dr l.length (fpC a) = true:=by rfl) : OpsK P T base ops dr (⟨some t,.call c,ty,pos,af,g⟩::l) ⟨sl,hp,nx⟩ K:=by
  simp only [Prod.mk.injEq] at j;obtain ⟨p,m,k,o⟩:=j;exact q25 a b p m k (.inl o) h n
theorem Q8 {st : AS} {c : List ResultVar} {r : DV} (v : V) (a : (resV T st c,toD st.hp 8 v) = (some v,some r)) : (Ex.ret = .nor∨Ex.ret = .ret)∧∃ v b,resV T st c = some v∧toD st.hp 8 v = some b∧DLe b r:=by
  simp only [Prod.mk.injEq] at a;exact ⟨.inr rfl,v,r,a.1,a.2,.refl _⟩
theorem qc {id : Nat} {ops : Array Oper} {b : Code} {cs : List Code} {st : AS} {K : Ex→AS→Prop} (h : OpsK P T base ops none ops.toList st (fun st'=>RunK P T base (b::cs) st' K)) : RunK P T base (.seq (.region id ops false) b::cs) st K:=qf (qz h)
theorem qs {a ops : Array Oper} {id : Nat} {b : Code} {cs : List Code} {st : AS} {K : Ex→AS→Prop} (h : OpsK P T base ops none ops.toList st (fun st'=>RunK P T base (b::cs) st' K)) : OpsK P T base a dr [] st (fun st'=>RunK P T base (.seq (.region id ops false) b::cs) st' K):=q9 (qf (qz h))
theorem qv {a : Array Oper} {cs : List Code} {st : AS} {K : Ex→AS→Prop} (h : K .ret st) : OpsK P T base a dr [] st (fun st'=>RunK P T base (.ret::cs) st' K):=q9 (q29 h)
theorem qy {a : Array Oper} {st : AS} {K : Ex→AS→Prop} (h : K .nor st) : OpsK P T base a dr [] st (fun st'=>RunK P T base [] st' K):=q9 (Qm h)
theorem K9 {dst : Option Tmp} {c : Call} {f : FuncId} {o : List V} {hp0 j : List (Nat × Blk)} {k s : Nat} {vR : V} (m p : List (Nat × Nat)) (r : List V) (t : V) (n : Nat) (a : List (Nat × Blk)) (b : Nat) (x : K8 P T f o hp0 k vR j s)
    (h : OpsK P T base ops none l ((⟨sl,a,b⟩ : AS).putD dst t) K)
    (hg : Qt ops ⟨sl,hp,nx⟩ ⟨dst,.call c,ty,pos,af,g⟩ = some true:=by exact rfl) (hc : callee ⟨sl,hp,nx⟩ c = some (f,r):=by exact rfl) (q : r.length = o.length:=by exact rfl)
    (u : wkOk 0 m [] [] hp0 k = true:=by exact rfl)
    (v : WkL ⟨Y7 0 r,hp,nx⟩ (rho m) [] [] k (Y7 0 o):=by
      repeat' first | exact trivial | refine And.intro (Exists.intro _ (And.intro rfl ?_)) ?_ | exact Wv.d (DLe.refl _) | exact Wv.ref rfl Q1 (ltd rfl) | exact Wv.mp rfl Q1 (ltd rfl) | exact Wv.hs rfl Q1 (ltd rfl) | exact Wv.d (DLe.nil _) | refine qe0 ?_ | refine qhu ?_ | refine q2p ?_ | refine WvL.cons ?_ ?_ | exact WvL.nil | exact Wv.dref _ _ | exact Wv.yld rfl Q1 (ltd rfl))
    (b1 : WkH ⟨Y7 0 r,hp,nx⟩ (rho m) [] [] k hp0:=by
      repeat' first | exact trivial | refine And.intro (And.intro (ltd rfl) (Or.inr (And.intro Q1 (Exists.intro _ (And.intro rfl ?_))))) ?_ | exact Wb.dat _ _ | exact Wb.mp _ | refine Jv ?_ | refine qhr ?_ | refine WvC.cons ?_ rfl ?_ | exact WvC.nil | exact Wv.d (DLe.refl _) | exact Wv.ref rfl Q1 (ltd rfl) | exact Wv.mp rfl Q1 (ltd rfl) | exact Wv.hs rfl Q1 (ltd rfl) | exact Wv.d (DLe.nil _))
    (y : wkOk 0 p [] [] (a.take n) b = true:=by exact rfl)
    (z : WkL ⟨[(0,vR)],j,s⟩ (rho p) [] [] b [(0,t)]:=by
      repeat' first | exact trivial | refine And.intro (Exists.intro _ (And.intro rfl ?_)) ?_ | exact Wv.d (DLe.refl _) | exact Wv.ref rfl Q1 (ltd rfl) | exact Wv.mp rfl Q1 (ltd rfl) | exact Wv.hs rfl Q1 (ltd rfl) | exact Wv.d (DLe.nil _) | refine qe0 ?_ | refine qhu ?_ | refine q2p ?_ | refine WvL.cons ?_ ?_ | exact WvL.nil | exact Wv.dref _ _ | exact Wv.yld rfl Q1 (ltd rfl))
    (w : WkH ⟨[(0,vR)],j,s⟩ (rho p) [] [] b (a.take n):=by
      repeat' first | exact trivial | refine And.intro (And.intro (ltd rfl) (Or.inr (And.intro Q1 (Exists.intro _ (And.intro rfl ?_))))) ?_ | exact Wb.dat _ _ | exact Wb.mp _ | refine Jv ?_ | refine qhr ?_ | refine WvC.cons ?_ rfl ?_ | exact WvC.nil | exact Wv.d (DLe.refl _) | exact Wv.ref rfl Q1 (ltd rfl) | exact Wv.mp rfl Q1 (ltd rfl) | exact Wv.hs rfl Q1 (ltd rfl) | exact Wv.d (DLe.nil _))
    (hb : q8t m p k s nx b = true:=by exact rfl)
    (hold : OldL m k hp (a.take n) a:=by repeat' first | exact trivial | refine And.intro (Or.inl rfl) ?_ | refine And.intro (Or.inr (And.intro rfl rfl)) ?_) :
    OpsK P T base ops none (⟨dst,.call c,ty,pos,af,g⟩::l) ⟨sl,hp,nx⟩ K:=
  Ua m p r t (a.take n) a b x hg hc q (Yi m [] [] u v b1) (Yi p [] [] y z w) hb hold h
end
inductive WvR (st : AS) (ρ : Nat→Nat) (fz ph : List Nat) (nx : Nat) : List (List V)→List (List V)→Prop
  | nil : WvR st ρ fz ph nx [] []
  | cons {c d : List V} {cs ds : List (List V)} : WvC st ρ fz ph nx c d→WvR st ρ fz ph nx cs ds→WvR st ρ fz ph nx (c::cs) (d::ds)
theorem WvR.len {st : AS} {ρ : Nat→Nat} {fz ph : List Nat} {nx : Nat} {cs ds : List (List V)} (h : WvR st ρ fz ph nx cs ds) : cs.length = ds.length:=by
  induction h with
  | nil=>rfl
  | cons _ _ ih=>simp [ih]
theorem WvR.get {st : AS} {ρ : Nat→Nat} {fz ph : List Nat} {nx : Nat} {cs ds : List (List V)} (h : WvR st ρ fz ph nx cs ds) : ∀ (j : Nat) (c d : List V),cs[j]? = some c→ds[j]? = some d→WvC st ρ fz ph nx c d:=by
  induction h with
  | nil=>intro i x y h;simp at h
  | cons h1 _ ih=>
    intro i x y b a
    cases i with
    | zero=>simp at b a;subst b;subst a;exact h1
    | succ i=>exact ih i x y (by simpa using b) (by simpa using a)
theorem q13y {st : AS} {ρ : Nat→Nat} {fz ph : List Nat} {nx es : Nat} {cs ds : List (List V)} (h : WvR st ρ fz ph nx cs ds) : Wb st ρ fz ph nx (.cel es cs) (.cel es ds):=
  .cel h.len fun i x y b a=>⟨(h.get i x y b a).len,(h.get i x y b a).get⟩
theorem q13z {st : AS} {ρ : Nat→Nat} {fz ph : List Nat} {nx es : Nat} {cs : List (List DV)} {ds : List (List V)} (h : WvR st ρ fz ph nx (cs.map (·.map .d)) ds) : Wb st ρ fz ph nx (.dat es cs) (.cel es ds):=by
  refine .datcel (by simpa using h.len) fun i x y g b=>?_;have a:=h.get i (x.map .d) y (by simp [g]) b;refine ⟨by simpa using a.len,fun j c d f hd=>a.get j (.d c) d (by simp [f]) hd⟩
theorem wkA {base : Nat} {st st' : AS} (l : List (Nat × Nat)) (fz ph : List Nat) (a : wkOk base l fz ph st'.hp st'.nx = true:=by exact rfl)
    (hs : WkL st (rho l) fz ph st'.nx st'.sl:=by
      repeat' first | exact trivial | refine And.intro (Exists.intro _ (And.intro rfl ?_)) ?_ | exact Wv.d (DLe.refl _) | exact Wv.ref rfl Q1 (ltd rfl) | exact Wv.mp rfl Q1 (ltd rfl) | exact Wv.hs rfl Q1 (ltd rfl) | exact Wv.d (DLe.nil _) | exact Wv.nil Q1 (ltd rfl) | exact qpm rfl rfl Q1 | refine qe0 ?_ | refine q145 ?_ | refine qhu ?_ | refine q146 ?_ | refine q2p ?_ | refine WvL.cons ?_ ?_ | exact WvL.nil | exact Wv.dref _ _ | exact Wv.yld rfl Q1 (ltd rfl))
    (b : WkH st (rho l) fz ph st'.nx st'.hp:=by
      repeat' first | exact trivial | refine And.intro (And.intro (ltd rfl) (Or.inr (And.intro Q1 (Exists.intro _ (And.intro rfl ?_))))) ?_ | refine And.intro (And.intro (ltd rfl) (Or.inl (And.intro Q1 (Exists.intro _ (And.intro Q1 rfl))))) ?_ | exact Wb.dat _ _ | exact Wb.mp _ | refine Jv ?_ | refine qhr ?_ | refine q13y ?_ | refine q13z ?_ | refine WvR.cons ?_ ?_ | exact WvR.nil | refine q140 ?_ | refine WvS.cons rfl ?_ ?_ | exact WvS.nil | refine WvC.cons ?_ rfl ?_ | exact WvC.nil | exact Wv.d (DLe.refl _) | exact Wv.ref rfl Q1 (ltd rfl) | exact Wv.mp rfl Q1 (ltd rfl) | exact Wv.hs rfl Q1 (ltd rfl) | exact Wv.d (DLe.nil _) | exact Wv.nil Q1 (ltd rfl) | exact qpm rfl rfl Q1 | refine q2p ?_ | refine qe0 ?_ | refine WvL.cons ?_ ?_ | exact WvL.nil | exact Wv.yld rfl Q1 (ltd rfl)) : WkE base st st':=wkE l fz ph a hs b
theorem qn {st : AS} {ρ : Nat→Nat} {fz ph : List Nat} {nx t : Nat} {x : DV} (h : st.get t = some (.d x)) : ∃ v,st.get t = some v∧Wv st ρ fz ph nx v (.d x):=⟨_,h,.d (.refl _)⟩
theorem Qq {st : AS} {ρ : Nat→Nat} {fz ph : List Nat} {nx n es : Nat} {xs : List (List DV)} (d : Nat.blt n nx = true) (a : st.blk (ρ n) = some (.dat es xs)) (c : n ∉ ph:=by decide) :
    n < nx∧((n∈ph∧∃ e,e≠0∧(Blk.dat es xs) = .dat e [])∨(n ∉ ph∧∃ b,st.blk (ρ n) = some b∧Wb st ρ fz ph nx b (.dat es xs))):=⟨ltd d,.inr ⟨c,_,a,.dat _ _⟩⟩
abbrev q6 : Option (List Nat) × List Nat:=(some [],[])
abbrev qu (n : Nat) : Option (List Nat) × List Nat:=(some [n],[])
abbrev Qv (n : Nat) : Option (List Nat) × List Nat:=(some [n],[n])
end Go.Am
namespace Go.Am
open Go
inductive DLeR : List (List DV)→List (List DV)→Prop
  | nil : DLeR [] []
  | cons {x y : List DV} {xs ys : List (List DV)} : DLeL x y→DLeR xs ys→DLeR (x::xs) (y::ys)
structure q1l (ag : Bool) (ks : List (Option IntKind)) {α : Type} [DecidableEq α] (ek : α→DV) : Prop where
  agg : ∀ k,Zu (ek k) = ag
  len : ∀ k,(cellsD (ek k)).length = ks.length
  eq : ∀ a b,Kd ks (cellsD (ek a)) (cellsD (ek b)) = some (decide (a = b))
theorem q9a {k : IntKind} : q1l false [some k] (fun n : Int=>DV.int k n):=
  ⟨fun _=>rfl,fun _=>rfl,fun a b=>by simp [cellsD,Kd,q2r];rfl⟩
section
variable {α β : Type} [DecidableEq α]
def Yd (z : β) (k : α) : List (α × β)→β
  | []=>z
  | (a,v)::r=>if k = a then v else Yd z k r
def qg9 (k : α) : List (α × β)→Bool
  | []=>false
  | (a,_)::r=>if k = a then true else qg9 k r
def Zk (k : α) (v : β) : List (α × β)→List (α × β)
  | []=>[(k,v)]
  | (a,w)::r=>if k = a then (k,v)::r else (a,w)::Zk k v r
def Yz (k : α) : List (α × β)→List (α × β)
  | []=>[]
  | (a,w)::r=>if k = a then r else (a,w)::Yz k r
abbrev mrow (ek : α→DV) (ev : β→DV) (es : List (α × β)) : List (DV × DV):=es.map fun e=>(ek e.1,ev e.2)
variable {ag : Bool} {ks : List (Option IntKind)} {ek : α→DV} {ev : β→DV}
def q1f (k : α) : List (α × β)→Option Nat
  | []=>none
  | (a,_)::r=>if k = a then some 0 else (q1f k r).map (· + 1)
theorem qcg (b : q1l ag ks ek) (k : α) : ∀ es : List (α × β),Zj ag ks (ek k) (mrow ek ev es) = some (q1f k es)
  | []=>rfl
  | (a,v)::r=>by
    have c:=qcg b k r
    simp only [mrow,List.map_cons,Zj,b.agg,and_self,if_true,b.eq,q1f] at c ⊢
    by_cases h : k = a
    · simp [h]
    · simp only [h,decide_false,if_false,c]
      cases q1f k r <;> rfl
theorem qfu (a : q1l ag ks ek) (k : α) : Uo ag ks (ek k) = true:=by
  simp [Uo,a.agg,a.len]
theorem qua (b : q1l ag ks ek) (z : β) (k : α) (es : List (α × β)) : mget ag ks (ev z) (ek k) (mrow ek ev es) = some (ev (Yd z k es),qg9 k es):=by
  unfold mget;rw [qcg b]
  induction es with
  | nil=>rfl
  | cons e r ih=>
    obtain ⟨a,v⟩:=e;simp only [q1f,Yd,qg9];by_cases h : k = a
    · simp [h]
    · simp only [h,if_false]
      cases hp : q1f k r with
      | none=>rw [hp] at ih;simpa using ih
      | some j=>rw [hp] at ih;simpa using ih
theorem qud (b : q1l ag ks ek) (k : α) (v : β) (es : List (α × β)) : mput ag ks (ek k) (ev v) (mrow ek ev es) = some (mrow ek ev (Zk k v es)):=by
  unfold mput;rw [qcg b]
  induction es with
  | nil=>rfl
  | cons e r ih=>
    obtain ⟨a,w⟩:=e;simp only [q1f,Zk];by_cases h : k = a
    · simp [h]
    · simp only [h,if_false]
      cases hp : q1f k r with
      | none=>rw [hp] at ih;simp at ih ⊢;exact ih
      | some j=>rw [hp] at ih;simp at ih ⊢;exact ih
theorem qu8 (b : q1l ag ks ek) (k : α) (es : List (α × β)) : mdel ag ks (ek k) (mrow ek ev es) = some (mrow ek ev (Yz k es)):=by
  unfold mdel;rw [qcg b]
  induction es with
  | nil=>rfl
  | cons e r ih=>
    obtain ⟨a,w⟩:=e;simp only [q1f,Yz];by_cases h : k = a
    · simp [h]
    · simp only [h,if_false]
      cases hp : q1f k r with
      | none=>rw [hp] at ih;simp at ih ⊢;exact ih
      | some j=>rw [hp] at ih;simp at ih ⊢;exact ih
end
section
variable {P : Program} {T : Tab} {base : Nat} {ops : Array Oper} {dr : Dr} {l : List Oper} {sl : List (Nat × V)} {hp : List (Nat × Blk)} {nx : Nat} {K : AS→Prop} {ty : TypeId} {pos : String} {af : Array Edge} {t : Tmp} {g : Option (Nat × Bool)}
variable {α β : Type} [DecidableEq α] {ek : α→DV} {ev : β→DV} {mt : TypeId} {i : TI} {ks : List (Option IntKind)} {n : Nat} {es : List (α × β)}
theorem qm5 {x a : Operand} (c : q1l i.eagg ks ek) (z : β) (k : α) (q : Qt ops ⟨sl,hp,nx⟩ ⟨some t,.lookup mt x a false,ty,pos,af,g⟩ = some true) (p : T mt = some i) (b : i.keys = some ks) (o : i.ezero = [ev z])
    (f : AS.ev ⟨sl,hp,nx⟩ x = some (.mp n)) (m : AS.ev ⟨sl,hp,nx⟩ a = some (.d (ek k))) (hb : find hp n = some (.mp (mrow ek ev es)))
    (h : OpsK P T base ops dr l ⟨(t,.d (ev (Yd z k es)))::sl,hp,nx⟩ K) (j : okO dr l.length ⟨sl,hp,nx⟩ (.lookup mt x a false) ⟨sl,hp,nx⟩ = true:=by rfl) : OpsK P T base ops dr (⟨some t,.lookup mt x a false,ty,pos,af,g⟩::l) ⟨sl,hp,nx⟩ K:=by
  refine Ya q (v:=.d (ev (Yd z k es))) (st1:=⟨sl,hp,nx⟩) ?_ h j;simp only [opFn,p,f,m,b,AS.blk,hb,o,qfu c,if_true,qua c,Option.map_some,Q3]
theorem quz {m a y : Operand} (c : q1l i.eagg ks ek) (k : α) (v : β) (s : Qt ops ⟨sl,hp,nx⟩ ⟨none,.mapUpdate mt m a y,ty,pos,af,g⟩ = some true) (r : T mt = some i) (b : i.keys = some ks)
    (f : AS.ev ⟨sl,hp,nx⟩ m = some (.mp n)) (o : AS.ev ⟨sl,hp,nx⟩ a = some (.d (ek k))) (p : AS.ev ⟨sl,hp,nx⟩ y = some (.d (ev v))) (hb : find hp n = some (.mp (mrow ek ev es))) (q : Yg (ev v) = true)
    (h : OpsK P T base ops dr l ⟨sl,repl hp n (.mp (mrow ek ev (Zk k v es))),nx⟩ K) (j : okO dr l.length ⟨sl,hp,nx⟩ (.mapUpdate mt m a y) ⟨sl,repl hp n (.mp (mrow ek ev (Zk k v es))),nx⟩ = true:=by rfl) : OpsK P T base ops dr (⟨none,.mapUpdate mt m a y,ty,pos,af,g⟩::l) ⟨sl,hp,nx⟩ K:=by
  refine Ya s (v:=.dead) (st1:=⟨sl,repl hp n (.mp (mrow ek ev (Zk k v es))),nx⟩) ?_ h j;simp only [opFn,r,f,o,p,b,AS.blk,hb,qfu c,q,and_self,if_true,qud c,Option.map_some];rfl
theorem qm3 {m a : Operand} {c : TypeId} (f : q1l i.eagg ks ek) (k : α) (r : Qt ops ⟨sl,hp,nx⟩ ⟨none,.call {callee:=.builtin .delete,args:=#[m,a],argTypes:=#[mt,c]},ty,pos,af,g⟩ = some true) (q : T mt = some i) (b : i.keys = some ks)
    (j : AS.ev ⟨sl,hp,nx⟩ m = some (.mp n)) (p : AS.ev ⟨sl,hp,nx⟩ a = some (.d (ek k))) (hb : find hp n = some (.mp (mrow ek ev es)))
    (h : OpsK P T base ops dr l ⟨sl,repl hp n (.mp (mrow ek ev (Yz k es))),nx⟩ K) (o : okO dr l.length ⟨sl,hp,nx⟩ (.call {callee:=.builtin .delete,args:=#[m,a],argTypes:=#[mt,c]}) ⟨sl,repl hp n (.mp (mrow ek ev (Yz k es))),nx⟩ = true:=by rfl) :
    OpsK P T base ops dr (⟨none,.call {callee:=.builtin .delete,args:=#[m,a],argTypes:=#[mt,c]},ty,pos,af,g⟩::l) ⟨sl,hp,nx⟩ K:=by
  refine Ya r (v:=.d (.tup [])) (st1:=⟨sl,repl hp n (.mp (mrow ek ev (Yz k es))),nx⟩) ?_ h o;simp only [opFn,evL,j,p,Y5];simp only [List.getElem?_toArray,List.getElem?_cons_zero,q,AS.blk,hb,b,qfu f,if_true,qu8 f,Option.map_some];rfl
theorem quy {α : Type} {c a : Operand} {b : TypeId} {i : TI} {k k' : IntKind} {n : Int} {z : α} {zs : List α} {enc : α→List DV} (f : mks i.ebytes n z = some zs) (w : Qt ops ⟨sl,hp,nx⟩ ⟨some t,.makeSlice b a c,ty,pos,af,g⟩ = some true) (p : T b = some i) (u : i.kind = .slice)
    (v : AS.ev ⟨sl,hp,nx⟩ a = some (.d (.int k n))) (o : AS.ev ⟨sl,hp,nx⟩ c = some (.d (.int k' n))) (s : enc z = i.ezero) (m : find hp nx = none)
    (h : OpsK P T base ops dr l ⟨(t,.d (.sl i.esize (zs.map enc)))::sl,hp,nx + 1⟩ K) (r : okF dr l.length (fp ⟨sl,hp,nx⟩ (.makeSlice b a c)) = true:=by rfl) : OpsK P T base ops dr (⟨some t,.makeSlice b a c,ty,pos,af,g⟩::l) ⟨sl,hp,nx⟩ K:=by
  unfold mks at f;split at f
  · rename_i j;cases f;have q : n.toNat = (List.replicate n.toNat i.ezero).length:=by simp
    refine q44 (es:=i.esize) (len:=n.toNat) (List.replicate n.toNat i.ezero) w ?_ q rfl m (by simpa [s] using h) r;simp only [opFn,p,v,o];rw [qr ⟨u,j.1,q0,by have:=j.2;simpa [room] using this⟩];rfl
  · cases f
end
end Go.Am
