/- Lf3 Lf4 -/
import Derived.Test.YtlchefooafpdlaaGreatK6
namespace Go.Am
open Go
theorem RunK.toEv {P : Program} {T : Tab} {base : Nat} {c : Code} {st : AS} {K : Ex→AS→Prop} (h : RunK P T base [c] st K) : ∃ ex st',Km P T base c st ex st'∧K ex st':=q4e h
section
variable {P : Program} {T : Tab} {base : Nat} {ops : Array Oper} {l : List Oper} {sl : List (Nat × V)} {hp : List (Nat × Blk)} {nx : Nat} {K : AS→Prop} {ty : TypeId} {pos : String} {af : Array Edge} {dst : Option Tmp} {g : Option (Nat × Bool)}
theorem q2i {β : Type} {c : Call} {f : FuncId} {fn : Func} {cd : Code} (vs : List V) (E : β→Prop) (S : β→AS) (hg : Qk ops ⟨sl,hp,nx⟩ ⟨dst,.call c,ty,pos,af,g⟩ = some true) (hc : callee ⟨sl,hp,nx⟩ c = some (f,vs))
    (hf : P.funcs[f]? = some fn) (hb : fn.body = some cd) (hname : (fn.name == "runtime.NumGoroutine") = false) (hok : codeOk fn.ntmps cd = true) (hl : Nat.ble vs.length fn.ntmps = true)
    (h : RunK P T nx [cd] ⟨Ks 0 vs,hp,nx⟩ (fun ex st'=>(ex = .nor∨ex = .ret)∧∃ v,resV T st' fn.results.toList = some v∧∃ b,E b∧WkE base ((⟨sl,st'.hp,st'.nx⟩ : AS).putD dst v) (S b)))
    (hr : ∀ b,E b→OpsK P T base ops none l (S b) K) : OpsK P T base ops none (⟨dst,.call c,ty,pos,af,g⟩::l) ⟨sl,hp,nx⟩ K:=by
  obtain ⟨ex,st',e,hx,v,hv,b,hb',hw⟩:=h.toEv
  obtain ⟨st2,e2,k2⟩:=hr b hb'
  obtain ⟨ρ,fz,ph,w⟩:=hw
  exact ⟨st2,.callS hg rfl hc (.mk hf hb hname hok (by simpa using hl) e hx hv) (.wk w e2),k2⟩
theorem q7s {β : Type} {c : Call} {gf : Operand} {n : Nat} {vs : List V} {s : List (Nat × V)} {ps : List Tmp} {assign body A B : Code} (E : β→Prop) (S : β→AS) (hA : assign = A) (hB : body = B) (hg : Qk ops ⟨sl,hp,nx⟩ ⟨dst,.call c,ty,pos,af,g⟩ = some true)
    (hcal : c.callee = .value gf) (hev : AS.ev ⟨sl,hp,nx⟩ gf = some (.yld n)) (hvs : evL (AS.ev ⟨sl,hp,nx⟩) c.args.toList = some vs) (hb : find hp n = some (.loop s ps A B .ready none)) (hl : ps.length = vs.length)
    (h : RunK P T nx [assign] ⟨q1i s ps vs,hp,nx⟩ (fun ex st1=>ex = .nor∧∃ s1,find st1.hp n = some (.loop s1 ps A B .ready none)∧
      RunK P T nx [body] (st1.setBlk n (.loop s1 ps A B .busy none)) (fun ex st2=>∃ s2,find st2.hp n = some (.loop s2 ps A B .busy none)∧match ex with
        | .nor=>∃ b,E b∧WkE base ((⟨sl,repl st2.hp n (.loop s2 ps A B .ready none),st2.nx⟩ : AS).putD dst (.d (.bool true))) (S b)
        | ex=>OpsK P T base ops none l ((⟨sl,repl st2.hp n (.loop s2 ps A B .done ex.code),st2.nx⟩ : AS).putD dst (.d (.bool false))) K)))
    (hr : ∀ b,E b→OpsK P T base ops none l (S b) K) : OpsK P T base ops none (⟨dst,.call c,ty,pos,af,g⟩::l) ⟨sl,hp,nx⟩ K:=by
  subst hA hB
  obtain ⟨ex1,st1,e1,rfl,s1,hb1,hrun⟩:=h.toEv
  obtain ⟨ex,st2,e2,s2,hb2,hk⟩:=hrun.toEv
  have key : ∀ st3,Kj P T base ops none l ((⟨sl,repl st2.hp n (.loop s2 ps assign body (if ex = .nor then .ready else .done) ex.code),st2.nx⟩ : AS).putD dst (.d (.bool (decide (ex = .nor))))) st3→Kj P T base ops none (⟨dst,.call c,ty,pos,af,g⟩::l) ⟨sl,hp,nx⟩ st3:=
    fun st3 h3=>.callY hg rfl hcal hev hvs hb hl e1 hb1 e2 hb2 h3
  cases ex with
  | nor=>
    obtain ⟨b,hb',ρ,fz,ph,w⟩:=hk
    obtain ⟨st3,e3,k3⟩:=hr b hb'
    exact ⟨st3,key st3 (.wk w e3),k3⟩
  | exit i=>
    obtain ⟨st3,e3,k3⟩:=hk
    exact ⟨st3,key st3 e3,k3⟩
  | ret=>
    obtain ⟨st3,e3,k3⟩:=hk
    exact ⟨st3,key st3 e3,k3⟩
end
section
variable {P : Program} {T : Tab} {base : Nat} {cs : List Code} {sl : List (Nat × V)} {hp : List (Nat × Blk)} {nx : Nat} {K : Ex→AS→Prop}
def qcr (P : Program) (T : Tab) (base : Nat) (cs : List Code) (K : Ex→AS→Prop) : Ex→AS→Prop:=q9q (fun st'=>RunK P T base cs st' K) K
theorem q89 {gf : Operand} {ps : Array Tmp} {assign body : Code} {f : FuncId} {fn : Func} {cd : Code} (caps : List V)
    (hg : AS.ev ⟨sl,hp,nx⟩ gf = some (.fn f caps)∨∃ ds,AS.ev ⟨sl,hp,nx⟩ gf = some (.d (.fn f ds))∧caps = ds.map .d)
    (hf : P.funcs[f]? = some fn) (hb : fn.body = some cd) (hname : (fn.name == "runtime.NumGoroutine") = false) (hok : codeOk fn.ntmps cd = true) (hl : Nat.ble (caps.length + 1) fn.ntmps = true)
    (h : ∀ A B,assign = A→body = B→RunK P T (nx + 1) [cd] ⟨Ks 0 (.yld nx::caps),(nx,.loop sl ps.toList A B .ready none)::hp,nx + 1⟩ (fun exF stF=>(exF = .nor∨exF = .ret)∧∃ v,resV T stF fn.results.toList = some v∧
      ∃ (s : List (Nat × V)) (ls : LoopState) (ex : Ex),find stF.hp nx = some (.loop s ps.toList A B ls ex.code)∧ls≠.busy∧qcr P T base cs K ex ⟨sl,repl stF.hp nx .dead,stF.nx⟩)) :
    RunK P T base (.rangeFunc gf ps assign body::cs) ⟨sl,hp,nx⟩ K:=by
  obtain ⟨exF,stF,e,hx,v,hv,s,ls,ex,h1,h2,h3⟩:=(h assign body rfl rfl).toEv
  exact ⟨ex,_,.rangeF (pe:=ex.code) hg (.mk hf hb hname hok (by simpa using hl) e hx hv) h1 h2 rfl,h3⟩
theorem q6z {st : AS} (h : RunK P T base cs st K) : qcr P T base cs K .nor st:=h
theorem qcs {st : AS} (h : K .ret st) : qcr P T base cs K .ret st:=h
end
inductive WvS (st : AS) (ρ : Nat→Nat) (fz ph : List Nat) (nx : Nat) : List (Nat × V)→List (Nat × V)→Prop
  | nil {s : List (Nat × V)} : WvS st ρ fz ph nx s []
  | cons {s s' : List (Nat × V)} {t : Nat} {v v' : V} : find s t = some v→Wv st ρ fz ph nx v v'→WvS st ρ fz ph nx s s'→WvS st ρ fz ph nx s ((t,v')::s')
theorem q10v {st : AS} {ρ : Nat→Nat} {fz ph : List Nat} {nx : Nat} {s s' : List (Nat × V)} {ps : List Tmp} {as bo : Code} {dn : LoopState} {pe : Option Code} (h : WvS st ρ fz ph nx s s') : Wb st ρ fz ph nx (.loop s ps as bo dn pe) (.loop s' ps as bo dn pe):=by
  refine .loop fun t v' hv=>?_
  induction h with
  | nil=>simp [find] at hv
  | @cons s' t' v v'' h1 h2 _ ih=>
    simp only [find] at hv
    cases hb : Nat.beq t' t with
    | true=>rw [hb] at hv;cases hv;obtain rfl:=Nat.eq_of_beq_eq_true hb;exact ⟨v,h1,h2⟩
    | false=>rw [hb] at hv;exact ih hv
theorem qfk {α : Type} {enc : α→List DV} {es : Nat} (hes : ∀ x,(enc x).length = es) {xs : List α} {k : Nat} {v : α} (h : xs[k]? = some v) : sub (xs.flatMap enc) (k * es) es = some (enc v):=by
  induction xs generalizing k with
  | nil=>simp at h
  | cons x xs ih=>
    cases k with
    | zero=>
      simp at h;subst h
      have:=hes x
      simp [sub,List.flatMap_cons,this]
    | succ k=>
      have h' : xs[k]? = some v:=by simpa using h
      have:=ih h'
      unfold sub at this ⊢
      have hx:=hes x
      have hk : (k + 1) * es = (enc x).length + k * es:=by rw [Nat.succ_mul,hx];omega
      rw [List.flatMap_cons,hk]
      split at this
      · rename_i hle
        rw [if_pos (by rw [List.length_append];omega),← List.drop_drop,List.drop_left]
        exact this
      · cases this
theorem qzj {α : Type} {enc : α→List DV} {es : Nat} (hes : ∀ x,(enc x).length = es) {xs : List α} {k : Nat} {v : α} (h : k < xs.length) : splice (xs.flatMap enc) (k * es) (enc v) = (xs.set k v).flatMap enc:=by
  induction xs generalizing k with
  | nil=>simp at h
  | cons x xs ih=>
    have hx:=hes x
    have hv:=hes v
    cases k with
    | zero=>
      simp only [splice,Nat.zero_mul,List.take_zero,List.nil_append,Nat.zero_add,List.flatMap_cons,List.set_cons_zero]
      rw [hv,← hx,List.drop_left]
    | succ k=>
      have:=ih (k:=k) (by simpa using h)
      simp only [splice] at this ⊢
      have hk : (k + 1) * es = (enc x).length + k * es:=by rw [Nat.succ_mul,hx];omega
      rw [List.flatMap_cons,List.set_cons_succ,List.flatMap_cons,hk,← this]
      rw [List.take_length_add_append,show (enc x).length + k * es + (enc v).length = (enc x).length + (k * es + (enc v).length) by omega,← List.drop_drop,List.drop_left]
      simp [List.append_assoc]
theorem qpz {α : Type} {enc : α→List DV} {es : Nat} (hes : ∀ x,(enc x).length = es) (xs : List α) : (xs.flatMap enc).length = xs.length * es:=by
  induction xs with
  | nil=>simp
  | cons x xs ih=>rw [List.flatMap_cons,List.length_append,hes,ih,List.length_cons,Nat.succ_mul];omega
def idxA {α : Type} (n : Nat) (xs : List α) (i : Int) : Option α:=if 0≤i∧i < n then xs[i.toNat]? else none
def andI (k : IntKind) (x y : Int) : Int:=k.wrap (BitVec.ofInt k.bits x &&& BitVec.ofInt k.bits y).toNat
def xorI (k : IntKind) (x y : Int) : Int:=k.wrap (BitVec.ofInt k.bits x ^^^ BitVec.ofInt k.bits y).toNat
section
variable {P : Program} {T : Tab} {base : Nat} {ops : Array Oper} {dr : Dr} {l : List Oper} {sl : List (Nat × V)} {hp : List (Nat × Blk)} {nx : Nat} {K : AS→Prop} {ty : TypeId} {pos : String} {af : Array Edge} {t : Tmp} {g : Option (Nat × Bool)}
theorem q100 {α β : Type} (f : α→β) (cs : List α) (j n : Nat) : sub (cs.map f) j n = (sub cs j n).map (·.map f):=by
  unfold sub
  simp only [List.length_map]
  split
  · simp [List.map_take,List.map_drop]
  · rfl
theorem q7o {α : Type} {n : Nat} {xs : List α} {i : Int} {v : α} (h : idxA n xs i = some v) : 0≤i∧i < n∧xs[i.toNat]? = some v:=by
  unfold idxA at h
  split at h
  · rename_i h0;exact ⟨h0.1,h0.2,h⟩
  · cases h
theorem qrw {α : Type} {x y : Operand} {xt : TypeId} {i : TI} {k : IntKind} {n : Int} {enc : α→List DV} {v : α} (xs : List α) (w : V) (hv : idxA i.len xs n = some v) (hes : ∀ x,(enc x).length = i.esize) (hg : Qk ops ⟨sl,hp,nx⟩ ⟨some t,.index xt x y,ty,pos,af,g⟩ = some true) (hT : T xt = some i)
    (hx : AS.ev ⟨sl,hp,nx⟩ x = some (.d (.agg (xs.flatMap enc)))) (hy : AS.ev ⟨sl,hp,nx⟩ y = some (.d (.int k n))) (hk : i.kind = .array) (hw : pack i.eagg ((enc v).map .d) = some w)
    (h : OpsK P T base ops dr l ⟨(t,w)::sl,hp,nx⟩ K) : OpsK P T base ops dr (⟨some t,.index xt x y,ty,pos,af,g⟩::l) ⟨sl,hp,nx⟩ K:=by
  obtain ⟨h0,h1,h2⟩:=q7o hv
  refine Y7 hg (v:=w) (st1:=⟨sl,hp,nx⟩) ?_ h (Zq rfl)
  simp only [opFn,hT,hx,hy,hk,agD]
  rw [if_pos ⟨h0,h1⟩,q100,qfk hes h2]
  simp only [Option.map_some,hw]
theorem Z4 {α : Type} {x y : Operand} {xt : TypeId} {i : TI} {k : IntKind} {n : Int} {m es : Nat} {v : α} {xs : List α} (hv : idxA i.len xs n = some v) (hg : Qk ops ⟨sl,hp,nx⟩ ⟨some t,.indexAddr xt x y,ty,pos,af,g⟩ = some true) (hT : T xt = some i)
    (hx : AS.ev ⟨sl,hp,nx⟩ x = some (.ref m es 0 0)) (hy : AS.ev ⟨sl,hp,nx⟩ y = some (.d (.int k n))) (hk : i.kind = .array)
    (h : OpsK P T base ops dr l ⟨(t,.ref m es 0 (n.toNat * i.esize))::sl,hp,nx⟩ K) : OpsK P T base ops dr (⟨some t,.indexAddr xt x y,ty,pos,af,g⟩::l) ⟨sl,hp,nx⟩ K:=by
  obtain ⟨h0,h1,_⟩:=q7o hv
  exact Y7 hg (v:=.ref m es 0 (n.toNat * i.esize)) (st1:=⟨sl,hp,nx⟩) (by simp [opFn,hx,hy,hT,q3e,hk,h0,h1]) h (Zq rfl)
theorem q4x {α : Type} {p : Operand} {xt : TypeId} {i : TI} {m es sz ln : Nat} {n : Int} {xs : List α} {enc : α→List DV} {v : α} (w : V) (hv : idxA ln xs n = some v) (hes : ∀ x,(enc x).length = sz) (hg : Qk ops ⟨sl,hp,nx⟩ ⟨some t,.load xt p,ty,pos,af,g⟩ = some true) (hT : T xt = some i)
    (hx : AS.ev ⟨sl,hp,nx⟩ p = some (.ref m es 0 (n.toNat * sz))) (hb : find hp m = some (.dat es [xs.flatMap enc])) (hs : sz = i.size) (hw : (U4 i.agg (enc v)).map .d = some w)
    (h : OpsK P T base ops dr l ⟨(t,w)::sl,hp,nx⟩ K) (hF : okF dr l.length (fp ⟨sl,hp,nx⟩ (.load xt p)) = true:=by rfl) : OpsK P T base ops dr (⟨some t,.load xt p,ty,pos,af,g⟩::l) ⟨sl,hp,nx⟩ K:=
  qb3 hg hT hx hb rfl (by rw [← hs];exact qfk hes (q7o hv).2.2) hw h hF
theorem q102 {α : Type} {enc : α→List DV} {es : Nat} (hes : ∀ x,(enc x).length = es) {xs : List α} {k off s : Nat} {v : α} {r : List DV} (h : xs[k]? = some v) (hs : sub (enc v) off s = some r) : sub (xs.flatMap enc) (k * es + off) s = some r:=by
  have h1:=qfk hes h
  unfold sub at h1 hs ⊢
  split at h1
  · rename_i hle
    split at hs
    · rename_i hle2
      rw [hes] at hle2
      have e : ((xs.flatMap enc).drop (k * es)).take es = enc v:=Option.some.inj h1
      rw [if_pos q7,← hs,← e,← List.drop_drop]
      congr 1
      rw [List.drop_take,List.take_take,Nat.min_eq_left q7]
    · cases hs
  · cases h1
theorem q3h {α : Type} {p : Operand} {xt : TypeId} {i : TI} {m es sz ln off : Nat} {n : Int} {xs : List α} {enc : α→List DV} {v : α} {r : List DV} (w : V) (hv : idxA ln xs n = some v) (hes : ∀ x,(enc x).length = sz) (hg : Qk ops ⟨sl,hp,nx⟩ ⟨some t,.load xt p,ty,pos,af,g⟩ = some true) (hT : T xt = some i)
    (hx : AS.ev ⟨sl,hp,nx⟩ p = some (.ref m es 0 (n.toNat * sz + off))) (hb : find hp m = some (.dat es [xs.flatMap enc])) (hs : sub (enc v) off i.size = some r) (hw : (U4 i.agg r).map .d = some w)
    (h : OpsK P T base ops dr l ⟨(t,w)::sl,hp,nx⟩ K) (hF : okF dr l.length (fp ⟨sl,hp,nx⟩ (.load xt p)) = true:=by rfl) : OpsK P T base ops dr (⟨some t,.load xt p,ty,pos,af,g⟩::l) ⟨sl,hp,nx⟩ K:=
  qb3 hg hT hx hb rfl (q102 hes (q7o hv).2.2 hs) hw h hF
theorem qb4 {α : Type} {p x : Operand} {xt : TypeId} {i : TI} {m es sz ln : Nat} {n : Int} {xs : List α} {enc : α→List DV} {v : α} (v' : α) {u : V} (hv : idxA ln xs n = some v) (hes : ∀ x,(enc x).length = sz) (hg : Qk ops ⟨sl,hp,nx⟩ ⟨none,.store xt p x,ty,pos,af,g⟩ = some true) (hT : T xt = some i)
    (hp' : AS.ev ⟨sl,hp,nx⟩ p = some (.ref m es 0 (n.toNat * sz))) (hx : AS.ev ⟨sl,hp,nx⟩ x = some u) (hb : find hp m = some (.dat es [xs.flatMap enc])) (hs : sz = i.size) (hc : cellsOf u = (enc v').map .d) (hk : (enc v').all Ze = true)
    (h : OpsK P T base ops dr l ⟨sl,repl hp m (.dat es [(xs.set n.toNat v').flatMap enc]),nx⟩ K) (hF : okO dr l.length ⟨sl,hp,nx⟩ (.store xt p x) ⟨sl,repl hp m (.dat es [(xs.set n.toNat v').flatMap enc]),nx⟩ = true:=by rfl) : OpsK P T base ops dr (⟨none,.store xt p x,ty,pos,af,g⟩::l) ⟨sl,hp,nx⟩ K:=by
  have hlt:=K5 (q7o hv).2.2
  refine Y7 hg (v:=.dead) (st1:=⟨sl,repl hp m (.dat es [(xs.set n.toNat v').flatMap enc]),nx⟩) ?_ h hF
  have hall : (cellsOf u).all K9 = true:=by rw [hc,List.all_map];exact hk
  have hlen : (cellsOf u).length = i.size:=by rw [hc,List.length_map,hes];exact hs
  have hle : n.toNat * sz + i.size≤(xs.flatMap enc).length:=by
    rw [qpz hes,← hs,← Nat.succ_mul];exact Nat.mul_le_mul_right _ hlt
  simp only [opFn,hT,hp',hx,Ja,AS.blk,hb,Nat.beq_refl]
  rw [if_neg (by simp [hall,hlen])]
  simp only [List.getElem?_cons_zero]
  rw [if_pos hle,hc,qct]
  simp only [qzj hes hlt,AS.setBlk,List.set_cons_zero]
  rfl
theorem qci {α : Type} {st : AS} {ρ : Nat→Nat} {fz ph : List Nat} {nx n es : Nat} {w : Nat × Nat} {ys : List α} {enc : α→List DV} (hw : w.1 + w.2≤ys.length) (hb : st.blk n = some (.dat es (ys.map enc))) (hn : n∈fz) : Wv st ρ fz ph nx (.hs n es w.1 w.2) (.d (.sl es (((ys.drop w.1).take w.2).map enc))):=
  .frz hb hn (by simpa using hw) (by rw [List.map_take,List.map_drop]) rfl
theorem qni {hp : List (Nat × Blk)} {vs : List V} {ds C : List DV} (h : Kg hp vs = some ds) : Kg hp (vs ++ C.map .d) = some (ds ++ C):=by
  induction vs generalizing ds with
  | nil=>
    simp [Kg] at h;subst h
    induction C with
    | nil=>rfl
    | cons c C ih=>
      simp only [List.nil_append,List.map_cons] at ih ⊢
      simp only [Kg]
      rw [show toD hp 8 (.d c) = some c from rfl,ih]
  | cons v vs ih=>
    simp only [Kg] at h
    split at h <;> simp at h
    rename_i x l hx hl
    subst h
    simp only [List.cons_append,Kg,hx,ih hl]
theorem qq0 {vs : List V} {C : List DV} : fpC (vs ++ C.map .d) = fpC vs:=by
  unfold fpC
  have : (C.map V.d).all V.isD = true:=by rw [List.all_map];simp [V.isD]
  rw [List.all_append,this,Bool.and_true]
theorem Yf {c : Call} {f : FuncId} {C ds : List DV} {r : DV} (vs : List V) (hpu : Pure P T f (ds ++ C) r) (hg : Qk ops ⟨sl,hp,nx⟩ ⟨some t,.call c,ty,pos,af,g⟩ = some true) (hc : callee ⟨sl,hp,nx⟩ c = some (f,vs ++ C.map .d)) (hd : Kg hp vs = some ds)
    (hs : (vs.all V.isD = true∨r.scalar = true)) (h : OpsK P T base ops dr l ⟨(t,.d r)::sl,hp,nx⟩ K) (hF : okF dr l.length (fpC vs) = true:=by rfl) : OpsK P T base ops dr (⟨some t,.call c,ty,pos,af,g⟩::l) ⟨sl,hp,nx⟩ K:=by
  refine qk1 hg rfl hc (qni hd) ?_ hpu h (by rw [qq0];exact hF)
  rcases hs with hs | hs
  · left
    rw [List.all_append,hs,Bool.true_and,List.all_map]
    simp [V.isD]
  · exact .inr hs
end
end Go.Am
namespace Go.Am
open Go
theorem Y4 {base : Nat} {st st' : AS} (l : List (Nat × Nat)) (fz ph : List Nat) (hok : wkOk base l fz ph st'.hp st'.nx = true) (hs : WkL st (rho l) fz ph st'.nx st'.sl) (hh : WkH st (rho l) fz ph st'.nx st'.hp) : Wk base (rho l) fz ph st st':=by
  simp only [wkOk,Bool.and_eq_true,Nat.ble_eq,List.all_eq_true] at hok
  obtain ⟨⟨⟨⟨h1,h2⟩,h3⟩,h5⟩,h4⟩:=hok
  refine ⟨?_,?_,?_,?_,?_,h1,?_,?_⟩
  · exact fun t v' h=>hs.get (Zn h)
  · exact fun n b' h=>hh.get (Zn h)
  · intro n m b c hn hm hpn hpm he
    have:=h4 _ (Zn hn)
    simp only [Bool.or_eq_true,Bool.and_eq_true,q4u,List.all_eq_true,Bool.not_eq_true'] at this
    rcases this with h | h
    · exact absurd h hpn
    · have:=h.2 _ (Zn hm)
      rcases this with (h' | h') | h'
      · exact absurd h' hpm
      · rw [he] at h';simp at h'
      · exact Nat.eq_of_beq_eq_true h'
  · intro n b hn hpn hc
    have:=h4 _ (Zn hn)
    simp only [Bool.or_eq_true,Bool.and_eq_true,q4u,Bool.not_eq_true'] at this
    rcases this with h | h
    · exact absurd h hpn
    · rw [q4u.2 hc] at h;exact absurd h.1 qf
  · intro n hn
    unfold rho
    split
    · rename_i m hm
      have:=h2 _ (Zn hm)
      simp at this;omega
    · rfl
  · exact fun n hn=>h3 n hn
  · exact fun n hn=>h5 n hn
def q72 (l l3 : List (Nat × Nat)) (k k' nx nxN : Nat) : Bool:=
  (List.range k).all (fun i=>Nat.blt (rho l i) nx && Nat.beq (rho l3 (rho l i)) i) && (List.range nx).all (fun m=>(Nat.blt (rho l3 m) k && Nat.beq (rho l (rho l3 m)) m) || Nat.ble k' (rho l3 m)) && Nat.ble nx nxN
def OldL (l : List (Nat × Nat)) (k : Nat) (hp hpR : List (Nat × Blk)) : List (Nat × Blk)→Prop
  | []=>True
  | (m,b)::r=>(find hpR m = some b∨(find hp m = some b∧(List.range k).all (fun i=>!(Nat.beq (rho l i) m)) = true))∧OldL l k hp hpR r
theorem OldL.get {l : List (Nat × Nat)} {k : Nat} {hp hpR : List (Nat × Blk)} : ∀ {r : List (Nat × Blk)},OldL l k hp hpR r→∀ m b,(m,b)∈r→find hpR m = some b∨(find hp m = some b∧∀ i,i < k→rho l i≠m)
  | [],_,m,b,h=>by cases h
  | (m',b')::r,h,m,b,hm=>by
    rcases List.mem_cons.1 hm with e | hm
    · cases e
      refine h.1.imp (fun x=>x) fun ⟨h1,h2⟩=>⟨h1,fun i hi e=>?_⟩
      have:=List.all_eq_true.1 h2 i (List.mem_range.2 hi)
      rw [e] at this;simp at this
    · exact OldL.get h.2 m b hm
section
variable {P : Program} {T : Tab} {base : Nat} {ops : Array Oper} {l : List Oper} {sl : List (Nat × V)} {hp : List (Nat × Blk)} {nx : Nat} {K : AS→Prop} {ty : TypeId} {pos : String} {af : Array Edge} {dst : Option Tmp} {g : Option (Nat × Bool)}
theorem Jq {c : Call} {f : FuncId} {vs' : List V} {hp0 hpR : List (Nat × Blk)} {k nR : Nat} {vR : V} (l1 l3 : List (Nat × Nat)) (vs : List V) (vN : V) (hpRn hpN : List (Nat × Blk)) (nxN : Nat) (he : K0 P T f vs' hp0 k vR hpR nR) (hg : Qk ops ⟨sl,hp,nx⟩ ⟨dst,.call c,ty,pos,af,g⟩ = some true) (hc : callee ⟨sl,hp,nx⟩ c = some (f,vs)) (hlen : vs.length = vs'.length)
    (hw1 : Wk 0 (rho l1) [] [] ⟨Ks 0 vs,hp,nx⟩ ⟨Ks 0 vs',hp0,k⟩) (hw3 : Wk 0 (rho l3) [] [] ⟨[(0,vR)],hpR,nR⟩ ⟨[(0,vN)],hpRn,nxN⟩) (hb : q72 l1 l3 k nR nx nxN = true) (hold : OldL l1 k hp hpRn hpN)
    (h : OpsK P T base ops none l ((⟨sl,hpN,nxN⟩ : AS).putD dst vN) K) : OpsK P T base ops none (⟨dst,.call c,ty,pos,af,g⟩::l) ⟨sl,hp,nx⟩ K:=by
  obtain ⟨st2,e2,k2⟩:=h
  refine ⟨st2,.callF hg rfl hc hlen hw1 he hw3 ⟨?_,?_,?_,?_,?_⟩ e2,k2⟩
  · intro i hi
    simp only [q72,Bool.and_eq_true,List.all_eq_true,List.mem_range] at hb
    have:=hb.1.1 i hi
    exact ⟨by simpa [Nat.blt_eq] using this.1,Nat.eq_of_beq_eq_true this.2⟩
  · intro m hm
    simp only [q72,Bool.and_eq_true,List.all_eq_true,List.mem_range,Bool.or_eq_true] at hb
    rcases hb.1.2 m hm with h1 | h1
    · exact .inl ⟨by simpa [Nat.blt_eq] using h1.1,Nat.eq_of_beq_eq_true h1.2⟩
    · exact .inr (by simpa using h1)
  · intro m hm;cases hm
  · exact fun m b h1=>hold.get m b (Zn h1)
  · simp only [q72,Bool.and_eq_true] at hb
    simpa using hb.2
end
theorem Ka {P : Program} {T : Tab} {f : FuncId} {fn : Func} {c : Code} {vs : List V} {hp hpR : List (Nat × Blk)} {nx nR : Nat} {vR : V} (hf : P.funcs[f]? = some fn) (hb : fn.body = some c) (hname : (fn.name == "runtime.NumGoroutine") = false) (hok : codeOk fn.ntmps c = true) (hl : Nat.ble vs.length fn.ntmps = true)
    (h : RunK P T nx [c] ⟨Ks 0 vs,hp,nx⟩ (fun ex st=>(ex = .nor∨ex = .ret)∧∃ v,resV T st fn.results.toList = some v∧WkE nx ⟨[(0,v)],st.hp,st.nx⟩ ⟨[(0,vR)],hpR,nR⟩)) : K0 P T f vs hp nx vR hpR nR:=by
  obtain ⟨ex,st',e,hx,v,hv,ρ,fz,ph,w⟩:=q4e h
  exact .wk (.mk hf hb hname hok (by simpa using hl) e hx hv) w
def shlK (k : IntKind) (x y : Int) : Option Int:=if y < 0 then none else some (k.wrap (x * 2 ^ (min y.toNat k.bits)))
section
variable {P : Program} {T : Tab} {base : Nat} {ops : Array Oper} {dr : Dr} {l : List Oper} {sl : List (Nat × V)} {hp : List (Nat × Blk)} {nx : Nat} {K : AS→Prop} {ty : TypeId} {pos : String} {af : Array Edge} {t : Tmp} {g : Option (Nat × Bool)}
theorem qs2 {x y : Operand} {xt yt : TypeId} {a b r : Int} {k k' : IntKind} (hr : shlK k a b = some r) (hg : Qk ops ⟨sl,hp,nx⟩ ⟨some t,.binOp .shl xt x y yt,ty,pos,af,g⟩ = some true) (hx : AS.ev ⟨sl,hp,nx⟩ x = some (.d (.int k a))) (hy : AS.ev ⟨sl,hp,nx⟩ y = some (.d (.int k' b)))
    (h : OpsK P T base ops dr l ⟨(t,.d (.int k r))::sl,hp,nx⟩ K) : OpsK P T base ops dr (⟨some t,.binOp .shl xt x y yt,ty,pos,af,g⟩::l) ⟨sl,hp,nx⟩ K:=by
  unfold shlK at hr
  split at hr
  · cases hr
  · rename_i h0;cases hr
    exact Y7 hg (v:=.d (.int k (k.wrap (a * 2 ^ (min b.toNat k.bits))))) (st1:=⟨sl,hp,nx⟩) (by simp [opFn,hx,hy,binD,q8b,h0]) h (Zq rfl)
end
def Qr (n m : Nat) : Option Unit:=if n = m then some () else none
theorem Kd {n m : Nat} {u : Unit} (h : Qr n m = some u) : n = m:=by
  unfold Qr at h
  split at h
  · assumption
  · cases h
def q45 (s : ByteArray) (i : Int) : Option Int:=(if 0≤i then s[i.toNat]? else none).map fun b=>(b.toNat : Int)
theorem qrx {P : Program} {T : Tab} {base : Nat} {ops : Array Oper} {dr : Dr} {l : List Oper} {sl : List (Nat × V)} {hp : List (Nat × Blk)} {nx : Nat} {K : AS→Prop} {ty : TypeId} {pos : String} {af : Array Edge} {t : Tmp} {g : Option (Nat × Bool)} {x y : Operand} {xt : TypeId} {i : TI} {k : IntKind} {n v : Int} (s : ByteArray) (hv : q45 s n = some v) (hg : Qk ops ⟨sl,hp,nx⟩ ⟨some t,.index xt x y,ty,pos,af,g⟩ = some true) (hT : T xt = some i)
    (hx : AS.ev ⟨sl,hp,nx⟩ x = some (.d (.str s))) (hy : AS.ev ⟨sl,hp,nx⟩ y = some (.d (.int k n))) (hk : i.kind = .str)
    (h : OpsK P T base ops dr l ⟨(t,.d (.int .u8 v))::sl,hp,nx⟩ K) : OpsK P T base ops dr (⟨some t,.index xt x y,ty,pos,af,g⟩::l) ⟨sl,hp,nx⟩ K:=by
  unfold q45 at hv
  rw [Option.map_eq_some_iff] at hv
  obtain ⟨b,hb,rfl⟩:=hv
  refine Y7 hg (v:=.d (.int .u8 b.toNat)) (st1:=⟨sl,hp,nx⟩) ?_ h (Zq rfl)
  simp only [opFn,hT,hx,hy,hk,hb,Option.map_some]
open Classical in
noncomputable def lim {α : Type} (f : Nat→Option α) : Option α:=if h : ∃ r n,f n = some r then some h.choose else none
theorem qe0 {α : Type} {f : Nat→Option α} {r : α} (h : lim f = some r) : ∃ n,f n = some r:=by
  unfold lim at h
  split at h
  · rename_i hh;cases h;exact hh.choose_spec
  · cases h
theorem qr2 {α : Type} {f : Nat→Option α} {n : Nat} {r : α} (h : f n = some r) : ∃ r',lim f = some r':=by
  unfold lim
  rw [dif_pos ⟨r,n,h⟩]
  exact ⟨_,rfl⟩
theorem Ya {P : Program} {T : Tab} {base : Nat} {c : Code} {cs : List Code} {st : AS} {K : Ex→AS→Prop} (h : RunK P T base (c::.loop c::cs) st K) : RunK P T base (.loop c::cs) st K:=by
  obtain ⟨ex,st1,e1,k1⟩:=h
  cases ex with
  | nor=>
    obtain ⟨ex2,st2,e2,k2⟩:=k1
    exact ⟨ex2,st2,.loopN e1 e2,k2⟩
  | exit i=>exact ⟨_,_,.loopX e1 qf,k1⟩
  | ret=>exact ⟨_,_,.loopX e1 qf,k1⟩
def idxW {α : Type} (xs : List α) (w : Nat × Nat) (k : Int) : Option α:=if 0≤k∧k < w.2 then xs[w.1 + k.toNat]? else none
theorem qdw {α : Type} {xs : List α} {w : Nat × Nat} {k : Int} {v : α} (h : idxW xs w k = some v) : idx xs ((w.1 : Int) + k) = some v:=by
  unfold idxW at h
  split at h
  · rename_i h0
    unfold idx
    rw [if_pos q7]
    rw [show ((w.1 : Int) + k).toNat = w.1 + k.toNat by omega];exact h
  · cases h
def Uw (n : Nat) (w : Nat × Nat) : Option Unit:=if w.1 + w.2≤n then some () else none
theorem qcg {n : Nat} {w : Nat × Nat} {u : Unit} (h : Uw n w = some u) : w.1 + w.2≤n:=by
  unfold Uw at h
  split at h
  · assumption
  · cases h
def clrw {α : Type} (xs : List α) (w : Nat × Nat) (z : α) : List α:=splice xs w.1 (List.replicate w.2 z)
theorem qgy {α : Type} {xs : List α} {w : Nat × Nat} {z : α} (h : w.1 + w.2≤xs.length) : (clrw xs w z).length = xs.length:=by
  unfold clrw splice;simp;omega
section
variable {P : Program} {T : Tab} {base : Nat} {ops : Array Oper} {dr : Dr} {l : List Oper} {sl : List (Nat × V)} {hp : List (Nat × Blk)} {nx : Nat} {K : AS→Prop} {ty : TypeId} {pos : String} {af : Array Edge} {t : Tmp} {g : Option (Nat × Bool)}
theorem qed {α : Type} {x y : Operand} {xt : TypeId} {i : TI} {k : IntKind} {n : Int} {m es : Nat} {xs : List α} {w : Nat × Nat} {v : α} (hv : idxW xs w n = some v) (hg : Qk ops ⟨sl,hp,nx⟩ ⟨some t,.indexAddr xt x y,ty,pos,af,g⟩ = some true) (hT : T xt = some i)
    (hx : AS.ev ⟨sl,hp,nx⟩ x = some (.hs m es w.1 w.2)) (hy : AS.ev ⟨sl,hp,nx⟩ y = some (.d (.int k n))) (hk : i.kind = .slice) (he : es = i.esize)
    (h : OpsK P T base ops dr l ⟨(t,.ref m es ((w.1 : Int) + n).toNat 0)::sl,hp,nx⟩ K) : OpsK P T base ops dr (⟨some t,.indexAddr xt x y,ty,pos,af,g⟩::l) ⟨sl,hp,nx⟩ K:=by
  have h0 : 0≤n∧n < w.2:=by
    unfold idxW at hv
    split at hv
    · assumption
    · cases hv
  refine qrt hg hT hx hy hk he h0.1 h0.2 ?_
  rw [show ((w.1 : Int) + n).toNat = w.1 + n.toNat by omega] at h;exact h
theorem qrs {α : Type} {x : Operand} {xt : TypeId} {i : TI} {n es : Nat} {xs : List α} {enc : α→List DV} (z : α) {w : Nat × Nat} (hw : w.1 + w.2≤xs.length) (hg : Qk ops ⟨sl,hp,nx⟩ ⟨none,.call {callee:=.builtin .clear,args:=#[x],argTypes:=#[xt]},ty,pos,af,g⟩ = some true) (hT : T xt = some i)
    (hx : AS.ev ⟨sl,hp,nx⟩ x = some (.hs n es w.1 w.2)) (hb : find hp n = some (.dat es (xs.map enc))) (hk : i.kind = .slice) (he : i.esize = es) (hz : i.ezero = enc z)
    (h : OpsK P T base ops dr l ⟨sl,repl hp n (.dat es ((clrw xs w z).map enc)),nx⟩ K) (hF : okO dr l.length ⟨sl,hp,nx⟩ (.call {callee:=.builtin .clear,args:=#[x],argTypes:=#[xt]}) ⟨sl,repl hp n (.dat es ((clrw xs w z).map enc)),nx⟩ = true:=by rfl) :
    OpsK P T base ops dr (⟨none,.call {callee:=.builtin .clear,args:=#[x],argTypes:=#[xt]},ty,pos,af,g⟩::l) ⟨sl,hp,nx⟩ K:=by
  subst he
  refine Y7 hg (v:=.d (.tup [])) (st1:=⟨sl,repl hp n (.dat i.esize ((clrw xs w z).map enc)),nx⟩) ?_ h hF
  simp only [opFn,evL,hx,Y2]
  simp only [List.getElem?_toArray,List.getElem?_cons_zero,hT]
  rw [if_pos ⟨hk,by simp [Jm]⟩]
  simp only [Jj,AS.blk,hb]
  rw [if_pos ⟨by simpa using hw,trivial⟩,hz]
  simp [clrw,splice,AS.setBlk]
end
def arr3 {α : Type} (xs : List α) : Option (α × α × α):=match xs with
  | [a0,a1,a2]=>some (a0,a1,a2)
  | _=>none
theorem qno {α : Type} {xs : List α} {v : α × α × α} {enc : α→List DV} (h : arr3 xs = some v) : xs.flatMap enc = enc v.1 ++ (enc v.2.1 ++ (enc v.2.2)):=by
  unfold arr3 at h
  split at h
  · cases h;simp
  · cases h
def arr6 {α : Type} (xs : List α) : Option (α × α × α × α × α × α):=match xs with
  | [a0,a1,a2,a3,a4,a5]=>some (a0,a1,a2,a3,a4,a5)
  | _=>none
theorem qnp {α : Type} {xs : List α} {v : α × α × α × α × α × α} {enc : α→List DV} (h : arr6 xs = some v) : xs.flatMap enc = enc v.1 ++ (enc v.2.1 ++ (enc v.2.2.1 ++ (enc v.2.2.2.1 ++ (enc v.2.2.2.2.1 ++ (enc v.2.2.2.2.2))))):=by
  unfold arr6 at h
  split at h
  · cases h;simp
  · cases h
def arr8 {α : Type} (xs : List α) : Option (α × α × α × α × α × α × α × α):=match xs with
  | [a0,a1,a2,a3,a4,a5,a6,a7]=>some (a0,a1,a2,a3,a4,a5,a6,a7)
  | _=>none
theorem qnq {α : Type} {xs : List α} {v : α × α × α × α × α × α × α × α} {enc : α→List DV} (h : arr8 xs = some v) : xs.flatMap enc = enc v.1 ++ (enc v.2.1 ++ (enc v.2.2.1 ++ (enc v.2.2.2.1 ++ (enc v.2.2.2.2.1 ++ (enc v.2.2.2.2.2.1 ++ (enc v.2.2.2.2.2.2.1 ++ (enc v.2.2.2.2.2.2.2))))))):=by
  unfold arr8 at h
  split at h
  · cases h;simp
  · cases h
section
variable {P : Program} {T : Tab} {base : Nat} {ops : Array Oper} {dr : Dr} {l : List Oper} {sl : List (Nat × V)} {hp : List (Nat × Blk)} {nx : Nat} {K : AS→Prop} {ty : TypeId} {pos : String} {af : Array Edge} {t : Tmp} {g : Option (Nat × Bool)}
theorem qee {α : Type} {p : Operand} {xt : TypeId} {i : TI} {m es : Nat} {xs : List α} {enc : α→List DV} {cs : List DV} (w : V) (hfl : xs.flatMap enc = cs) (hg : Qk ops ⟨sl,hp,nx⟩ ⟨some t,.load xt p,ty,pos,af,g⟩ = some true) (hT : T xt = some i)
    (hx : AS.ev ⟨sl,hp,nx⟩ p = some (.ref m es 0 0)) (hb : find hp m = some (.dat es [xs.flatMap enc])) (hs : i.size = cs.length) (hw : (U4 i.agg cs).map .d = some w)
    (h : OpsK P T base ops dr l ⟨(t,w)::sl,hp,nx⟩ K) (hF : okF dr l.length (fp ⟨sl,hp,nx⟩ (.load xt p)) = true:=by rfl) : OpsK P T base ops dr (⟨some t,.load xt p,ty,pos,af,g⟩::l) ⟨sl,hp,nx⟩ K:=by
  rw [hfl] at hb
  exact qb3 hg hT hx hb rfl (by rw [hs];exact q101) hw h hF
end
end Go.Am
