/- Lf7 -/
import Derived.Test.YtgkialgkmjnfbaaGreatK8
namespace Go.Am
open Go
section
variable {α ε ρ : Type}
theorem qeu {α β : Type} (f : α→β) : ∀ (l : List α) (i : Nat),(l.map f).eraseIdx i = (l.eraseIdx i).map f
  | [],i=>by simp
  | a::r,0=>rfl
  | a::r,i + 1=>by simp [qeu f r i]
def Kq (R : α→ε→Option (α ⊕ ρ)) : List ε→α→Option (α ⊕ ρ)
  | [],a=>some (.inl a)
  | e::r,a=>match R a e with
    | some (.inl a')=>Kq R r a'
    | some (.inr x)=>some (.inr x)
    | none=>none
def q7g {β : Type} (Tl : α→Option β) : α ⊕ Empty→Option β
  | .inl a=>Tl a
  | .inr e=>e.elim
def MEq (E : α→α→Prop) : α ⊕ ρ→α ⊕ ρ→Prop
  | .inl a,.inl b=>E a b
  | .inr x,.inr y=>x = y
  | _,_=>False
noncomputable def q19 (E : α→α→Prop) (R : α→ε→Option (α ⊕ ρ)) (es : List ε) (a0 : α) : Option Unit:=
  open Classical in if ∀ l : List ε,l.Perm es→∃ m m',Kq R es a0 = some m∧Kq R l a0 = some m'∧MEq E m' m then some () else none
noncomputable def q4n {β : Type} (F : List ε→Option β) (es : List ε) : Option Unit:=
  open Classical in if ∀ l : List ε,l.Perm es→F l = F es then some () else none
theorem qx1 {E : α→α→Prop} {R : α→ε→Option (α ⊕ ρ)} {es : List ε} {a : α} {u : Unit} (h : q19 E R es a = some u) : ∀ l : List ε,l.Perm es→∃ m b,Kq R es a = some m∧Kq R l a = some b∧MEq E b m:=by
  unfold q19 at h;split at h
  · assumption
  · cases h
theorem q10u {β : Type} {F : List ε→Option β} {es : List ε} {u : Unit} (h : q4n F es = some u) : ∀ l : List ε,l.Perm es→F l = F es:=by
  unfold q4n at h;split at h
  · assumption
  · cases h
theorem q8b {R : α→ε→Option (α ⊕ ρ)} : ∀ {l : List ε} {a a' : α} {b : List ε},Kq R l a = some (.inl a')→Kq R (l ++ b) a = Kq R b a'
  | [],a,a',b,h=>by simp [Kq] at h;subst h;rfl
  | e::l,a,a',b,h=>by
    simp only [Kq,List.cons_append] at h ⊢
    split at h
    · exact q8b h
    · simp at h
    · simp at h
end
section
variable {P : Program} {T : Tab} {base : Nat} {K : Ex→AS→Prop}
theorem qev {ε : Type} {id : Nat} {y w : Oper} {j g : Tmp} {x : Operand} {c : Code} {n : Nat} {R : Ex→AS→Prop} (C : List ε→AS→Prop) (St : List ε→AS→Nat→Option AS) (z : q2z y w = some (x,j,g))
    (head : ∀ rest st,C rest st→st.ev x = some (.it n)∧q2g st n = some (rest.length,St rest st))
    (over : ∀ st,C [] st→q2a P T base c ((st.put j .dead).put g (.d (.bool false))) (fun ex st'=>ex≠.nor∧R ex st'))
    (round : ∀ rest st i u,C rest st→St rest st i = some u→i < rest.length∧q2a P T base c ((u.put j .dead).put g (.d (.bool true))) (fun ex st'=>(ex = .nor∧∃ st2,WkE base st' st2∧C (rest.eraseIdx i) st2)∨(ex≠.nor∧R ex st'))) :
    ∀ (k : Nat) (rest : List ε) (st : AS),rest.length = k→C rest st→q1j P T base (.seq (.region id #[y,w] false) c) st R:=by
  intro k
  induction k with
  | zero=>
    intro rest st hl f;have : rest = []:=List.length_eq_zero_iff.1 hl;subst this;obtain ⟨p,m⟩:=head [] st f;obtain ⟨e0,s0,q,o⟩:=over st f;have none : ∀ i u,St [] st i = some u→False:=fun i u a=>by have:=(round [] st i u f a).1;simp at this
    exact .mk (e1:=fun _=>.nor) (s1:=fun _=>st) z p m (fun _=>q) (fun _=>o) (fun i u a=>(none i u a).elim) (fun i u a=>(none i u a).elim) (fun i u a=>(none i u a).elim)
  | succ k ih=>
    intro rest st hl f;obtain ⟨p,m⟩:=head rest st f;have hr : ∀ i u,St rest st i = some u→∃ ex st',Ki P T base c ((u.put j .dead).put g (.d (.bool true))) ex st'∧((ex = .nor∧∃ st2,WkE base st' st2∧C (rest.eraseIdx i) st2)∨(ex≠.nor∧R ex st')):=fun i u a=>(round rest st i u f a).2
    have b : ∀ i,∃ ex st',∀ u,St rest st i = some u→Ki P T base c ((u.put j .dead).put g (.d (.bool true))) ex st'∧((ex = .nor∧∃ st2,WkE base st' st2∧C (rest.eraseIdx i) st2)∨(ex≠.nor∧R ex st')):=by
      intro i
      cases a : St rest st i with
      | none=>exact ⟨.nor,st,fun u h=>by cases h⟩
      | some u=>
        obtain ⟨ex,st',q,o⟩:=hr i u a;exact ⟨ex,st',fun v hv=>by cases hv;exact ⟨q,o⟩⟩
    let e1:=fun i=>(b i).choose
    let s1:=fun i=>(b i).choose_spec.choose
    have hs : ∀ i u,St rest st i = some u→Ki P T base c ((u.put j .dead).put g (.d (.bool true))) (e1 i) (s1 i)∧(((e1 i) = .nor∧∃ st2,WkE base (s1 i) st2∧C (rest.eraseIdx i) st2)∨((e1 i)≠.nor∧R (e1 i) (s1 i))):=fun i u a=>(b i).choose_spec.choose_spec u a;have l : rest.length≠0:=by omega
    refine .mk (e0:=.ret) (s0:=st) (e1:=e1) (s1:=s1) z p m (fun h=>absurd h l) (fun h=>absurd h l) (fun i u a=>(hs i u a).1) (fun i u a t=>?_) (fun i u a t=>?_)
    · rcases (hs i u a).2 with ⟨_,st2,⟨ρ,fz,ph,hw⟩,r⟩ | ⟨s,_⟩
      · refine .wk hw (ih _ st2 ?_ r);have:=(round rest st i u f a).1;rw [List.length_eraseIdx,qu this];omega
      · exact absurd t s
    · rcases (hs i u a).2 with ⟨s,_⟩ | ⟨_,h4⟩
      · exact absurd s t
      · exact h4
variable {κ υ α ρ : Type} {ek : κ→DV} {ev : υ→DV}
abbrev eP (ek : κ→DV) (ev : υ→DV) (e : κ × υ) : DV × DV:=(ek e.1,ev e.2)
theorem qgk {id k n : Nat} {o1 o2 : Oper} {t1 t2 : Tmp} {x : Operand} {c : Code} {cs : List Code} {st : AS} {es : List (κ × υ)} {o : α} {u : Unit} {E : α→α→Prop} (R : α→κ × υ→Option (α ⊕ ρ)) (S : α→List (DV × DV)→AS) (S1 : α→DV × DV→List (DV × DV)→AS) (S0 p : α→AS) (v : ρ→AS) (m : α ⊕ ρ)
    (hm : Kq R es o = some m) (hu : q19 E R es o = some u) (ho : q2z o1 o2 = some (x,t1,t2)) (hx : ∀ a rest,(S a rest).ev x = some (.it n)) (hb : ∀ a rest,(S a rest).blk n = some (.itF none rest))
    (h1 : ∀ a q rest e,(((S a q).setBlk n (.itF (some e) rest)).put t1 .dead).put t2 (.d (.bool true)) = S1 a e rest) (h0 : ∀ a,((S a []).put t1 .dead).put t2 (.d (.bool false)) = S0 a)
    (hw : WkE base st (S o (mrow ek ev es)))
    (round : ∀ a e rest r,R a e = some r→RunK P T base [c] (S1 a (eP ek ev e) rest) (fun ex st'=>(ex = .nor∧∃ a',Sum.inl a' = r∧WkE base st' (S a' rest))∨(ex = .ret∧∃ y,Sum.inr y = r∧WkE base st' (v y))))
    (over : ∀ a,RunK P T base [c] (S0 a) (fun ex st'=>ex = .exit id∧WkE base st' (p a)))
    (s : ∀ a a',E a' a→WkE base (p a') (p a)) (again : ∀ y,WkE base (v y) (v y))
    (inl : ∀ a,Sum.inl a = m→RunK P T base cs (p a) K) (inr : ∀ y,Sum.inr y = m→K .ret (v y)) :
    RunK P T base (.block id (.loop (.seq (.region k #[o1,o2] false) c))::cs) st K:=by
  have l:=qx1 hu
  let C : List (κ × υ)→AS→Prop:=fun rest st=>∃ pre a f,(pre ++ rest).Perm es∧Kq R pre o = some (.inl a)∧f = mrow ek ev rest∧st = S a f
  let RR : Ex→AS→Prop:=fun ex st'=>(ex = .exit id∧∃ a' a,Sum.inl a = m∧E a' a∧WkE base st' (p a'))∨(ex = .ret∧∃ y,Sum.inr y = m∧WkE base st' (v y))
  have j : q1j P T base (.seq (.region k #[o1,o2] false) c) (S o (mrow ek ev es)) RR:=by
    refine qev (ε:=κ × υ) (n:=n) C (fun rest st i=>(rest[i]?).map fun e=>st.setBlk n (.itF (some (eP ek ev e)) (mrow ek ev (rest.eraseIdx i)))) ho ?_ ?_ ?_ _ es _ rfl ⟨[],o,_,.refl _,rfl,rfl,rfl⟩
    · rintro rest st ⟨pre,a,f,hp,hf,rfl,rfl⟩;refine ⟨hx _ _,?_⟩;simp only [q2g,hb,Option.some.injEq,Prod.mk.injEq];refine ⟨qd,?_⟩;funext i;simp only [mrow,qeu,List.getElem?_map,Option.map_map];rfl
    · rintro st ⟨pre,a,f,hp,hf,rfl,rfl⟩;simp only [List.append_nil] at hp;obtain ⟨m1,m2,e1,h,w⟩:=l pre hp;rw [hm] at e1;cases e1;rw [hf] at h;cases h;have:=Jd (over a);rw [← h0 a] at this;refine this.mono ?_;rintro ex st' ⟨rfl,g⟩;refine ⟨qd,.inl ⟨rfl,?_⟩⟩
      cases m with
      | inl b=>exact ⟨a,b,rfl,w,g⟩
      | inr y=>exact w.elim
    · rintro rest st i u ⟨pre,a,f,hp,hf,rfl,rfl⟩ hi;simp only [Y0] at hi;obtain ⟨e,he,rfl⟩:=hi;have aj:=K7 he;refine ⟨aj,?_⟩;have aa : (pre ++ (e::rest.eraseIdx i)).Perm es:=((q26 e he).2.symm.append_left pre).trans hp;obtain ⟨m1,m2,e1,h,w⟩:=l _ aa;rw [hm] at e1;cases e1;rw [q8b hf] at h
      cases hr : R a e with
      | none=>simp [Kq,hr] at h
      | some r=>
        have:=Jd (round a e (mrow ek ev (rest.eraseIdx i)) r hr);rw [← h1 a (mrow ek ev rest)] at this;refine this.mono ?_;rintro ex st' (⟨rfl,a',rfl,g⟩ | ⟨rfl,y,rfl,g⟩)
        · left;refine ⟨rfl,_,g,pre ++ [e],a',_,by simpa using aa,?_,rfl,rfl⟩;rw [q8b hf];simp [Kq,hr]
        · right;refine ⟨qd,.inr ⟨rfl,?_⟩⟩;simp only [Kq,hr,Option.some.injEq] at h;subst h
          cases m with
          | inl b=>exact w.elim
          | inr z=>
            have : y = z:=w;exact ⟨z,rfl,by rw [← this];exact g⟩
  obtain ⟨ρ1,fz,ph,hw⟩:=hw
  cases m with
  | inl a=>
    have t : Ki P T base (.block id (.loop (.seq (.region k #[o1,o2] false) c))) (S o (mrow ek ev es)) .nor (p a):=by
      refine .blockS j ?_;rintro ah st1 (⟨rfl,a',a2,e1,h,w⟩ | ⟨rfl,y,e1,_⟩)
      · cases e1;exact ⟨by simp [Ex.block],p a',w,s a a' h⟩
      · cases e1
    exact ⟨.nor,_,.wk hw t,inl a rfl⟩
  | inr y=>
    have t : Ki P T base (.block id (.loop (.seq (.region k #[o1,o2] false) c))) (S o (mrow ek ev es)) .ret (v y):=by
      refine .blockS j ?_;rintro ah st1 (⟨rfl,a',a2,e1,_,_⟩ | ⟨rfl,z,e1,h⟩)
      · cases e1
      · cases e1;exact ⟨rfl,v y,h,again y⟩
    exact ⟨.ret,_,.wk hw t,inr y rfl⟩
theorem qzc {id o n : Nat} {o1 o2 : Oper} {t1 t2 : Tmp} {x : Operand} {c p b : Code} {st : AS} {es : List (κ × υ)} {g : α} {u : Unit} {β : Type} (R : α→κ × υ→Option (α ⊕ Empty)) (v : α→Option β) (S : α→List (DV × DV)→AS) (S1 : α→DV × DV→List (DV × DV)→AS) (S0 SB : α→AS) (SX : β→AS) (y : β)
    (hy : ((Kq R es g).bind (q7g v)) = some y) (hu : q4n (fun l=>(Kq R l g).bind (q7g v)) es = some u)
    (ho : q2z o1 o2 = some (x,t1,t2)) (hx : ∀ a rest,(S a rest).ev x = some (.it n)) (hb : ∀ a rest,(S a rest).blk n = some (.itF none rest))
    (h1 : ∀ a k rest e,(((S a k).setBlk n (.itF (some e) rest)).put t1 .dead).put t2 (.d (.bool true)) = S1 a e rest) (h0 : ∀ a,((S a []).put t1 .dead).put t2 (.d (.bool false)) = S0 a)
    (pre : RunK P T base [p] st (fun ex st'=>ex = .nor∧WkE base st' (S g (mrow ek ev es))))
    (round : ∀ a e rest r,R a e = some r→RunK P T base [c] (S1 a (eP ek ev e) rest) (fun ex st'=>ex = .nor∧∃ a',Sum.inl a' = r∧WkE base st' (S a' rest)))
    (over : ∀ a,RunK P T base [c] (S0 a) (fun ex st'=>ex = .exit id∧WkE base st' (SB a)))
    (tail : ∀ a,v a = some y→RunK P T base [b] (SB a) (fun ex st'=>ex = .ret∧st' = SX y)) (fin : K .ret (SX y)) :
    RunK P T base [.seq (.seq p (.block id (.loop (.seq (.region o #[o1,o2] false) c)))) b] st K:=by
  have z:=q10u hu
  let C : List (κ × υ)→AS→Prop:=fun rest st=>∃ pre a f,(pre ++ rest).Perm es∧Kq R pre g = some (.inl a)∧f = mrow ek ev rest∧st = S a f
  let RR : Ex→AS→Prop:=fun ex st'=>ex = .exit id∧∃ a,v a = some y∧WkE base st' (SB a)
  have t : ∀ l : List (κ × υ),l.Perm es→∃ a,Kq R l g = some (.inl a)∧v a = some y:=by
    intro l hl;have h:=(z l hl).trans hy
    cases j : Kq R l g with
    | none=>rw [j] at h;simp at h
    | some m=>
      cases m with
      | inl a=>rw [j] at h;exact ⟨a,rfl,h⟩
      | inr e=>exact e.elim
  have s : q1j P T base (.seq (.region o #[o1,o2] false) c) (S g (mrow ek ev es)) RR:=by
    refine qev (ε:=κ × υ) (n:=n) C (fun rest st i=>(rest[i]?).map fun e=>st.setBlk n (.itF (some (eP ek ev e)) (mrow ek ev (rest.eraseIdx i)))) ho ?_ ?_ ?_ _ es _ rfl ⟨[],g,_,.refl _,rfl,rfl,rfl⟩
    · rintro rest st ⟨pre,a,f,hp,j,rfl,rfl⟩;refine ⟨hx _ _,?_⟩;simp only [q2g,hb,Option.some.injEq,Prod.mk.injEq];refine ⟨qd,?_⟩;funext i;simp only [mrow,qeu,List.getElem?_map,Option.map_map];rfl
    · rintro st ⟨pre,a,f,hp,j,rfl,rfl⟩;simp only [List.append_nil] at hp;obtain ⟨a2,e1,e2⟩:=t pre hp;rw [j] at e1;cases e1;have:=Jd (over a);rw [← h0 a] at this;refine this.mono ?_;rintro ex st' ⟨rfl,q⟩;exact ⟨qd,rfl,a,e2,q⟩
    · rintro rest st i u ⟨pre,a,f,hp,j,rfl,rfl⟩ hi;simp only [Y0] at hi;obtain ⟨e,he,rfl⟩:=hi;refine ⟨K7 he,?_⟩;have w : (pre ++ (e::rest.eraseIdx i)).Perm es:=((q26 e he).2.symm.append_left pre).trans hp;obtain ⟨a2,e2,e3⟩:=t _ w;rw [q8b j] at e2
      cases hr : R a e with
      | none=>simp [Kq,hr] at e2
      | some r=>
        have:=Jd (round a e (mrow ek ev (rest.eraseIdx i)) r hr);rw [← h1 a (mrow ek ev rest)] at this;refine this.mono ?_;rintro ex st' ⟨rfl,a',rfl,q⟩;left;refine ⟨rfl,_,q,pre ++ [e],a',_,by simpa using w,?_,rfl,rfl⟩;rw [q8b j];simp [Kq,hr]
  obtain ⟨ap,aw,g0,rfl,ρ1,fz,ph,hw⟩:=Jd pre
  have aj : Ki P T base (.seq (.seq p (.block id (.loop (.seq (.region o #[o1,o2] false) c)))) b) st .ret (SX y):=by
    refine .seqS g0 (.wk hw s) ?_ ?_
    · rintro st1 ⟨_,a,e1,ρ2,bg,az,ae⟩;obtain ⟨ex,st',g1,rfl,rfl⟩:=Jd (tail a e1);exact .wk ae g1
    · rintro ar st1 ⟨rfl,_⟩ ad;exact absurd rfl ad
  exact ⟨.ret,_,aj,fin⟩
end
section
variable {P : Program} {T : Tab} {base : Nat} {ops : Array Oper} {dr : Dr} {l : List Oper} {sl : List (Nat × V)} {hp : List (Nat × Blk)} {nx : Nat} {K : AS→Prop} {ty : TypeId} {pos : String} {af : Array Edge} {t : Tmp} {g : Option (Nat × Bool)}
end
end Go.Am
