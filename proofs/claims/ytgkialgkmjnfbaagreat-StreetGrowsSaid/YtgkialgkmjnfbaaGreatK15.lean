/- St37 St38 -/
import Derived.Test.YtgkialgkmjnfbaaGreatK14
namespace Go.Sh
open Go Go.Am
theorem q11z {vis : List (qc × Bool)} {out own : List Q6} (h : q1v vis (out ++ own)) (q o : qc) : (decide (q = o) || K7 false q vis) = (decide (q = o) || anyB out q || anyB own q):=by
  rw [h q,qc6,Bool.or_assoc]
theorem qvy {own : List Q6} {go : Bool} {p q : qc} : ownN own go p q≠[]:=by
  rcases List.eq_nil_or_concat own with rfl | ⟨a,s,rfl⟩
  · rw [qga];simp
  · rw [List.concat_eq_append,q49];cases go <;> simp
theorem qo2 {l : List Qx} (g : l.length≤60) (m : ∀ v∈l,Yf v) (w : Y2) (hs : w.Steps≤1000) (out : List Q6) :
    ∀ (n : Nat) {h k : Nat} {p : qc} {own : List Q6} {vis : List (qc × Bool)},(k : Int) + n = w.Steps→h < 4→PtB p→(own = []↔k = 0)→out.length + own.length≤400→q1v vis (out ++ own)→q5a own h p→
      ∃ b,loop (q2r w l) ((h : Int),(k : Int),vis,out ++ own,p.X,p.Y) = some (if (Zn l w.At n h p out own).1 = 0 then .inl (b,(Zn l w.At n h p out own).2) else .inr ((Zn l w.At n h p out own).1,b,[]))∧
        ((Zn l w.At n h p out own).1 = 0→q1v b (Zn l w.At n h p out own).2∧(Zn l w.At n h p out own).2.length≤400)
  | 0,h,k,p,own,vis,hk,hh,hp,hk0,hlen,hvis,ho=>by
    refine ⟨vis,?_,fun _=>⟨hvis,by simp only [Zn,List.length_append];omega⟩⟩
    have : q2r w l ((h : Int),(k : Int),vis,out ++ own,p.X,p.Y) = some (.inr (.inl (vis,out ++ own))):=by
      unfold q2r;rw [Q9 (show ¬ ((k : Int) < w.Steps) by omega),Q5]
    rw [Kj this]
    rfl
  | n + 1,h,k,p,own,vis,hk,hh,hp,hk0,hlen,hvis,ho=>by
    have a:=q12s g m w (h:=h) (k:=k) (p:=p) (out:=out) (own:=own) (vis:=vis) hh hp q8 q8 hk0 hlen;rw [Zn];rw [q11z hvis] at a;by_cases d : ptB (goV l p h) = true
    case neg=>
      rw [qw d] at a ⊢;exact ⟨vis,by rw [Kj a];rfl,fun h=>by cases h⟩
    rw [qx d] at a ⊢;obtain ⟨q,o⟩:=qw1 (q5m (l:=l) (p:=p) hh) ho hp (q64.1 d);rw [← qs6] at q o;by_cases f : 400 < out.length + (ownN own (Kg l p h == h) p (goV l p h)).length
    · rw [qx f] at a ⊢;exact ⟨vis,by rw [Kj a];rfl,fun h=>by cases h⟩
    rw [qw f] at a ⊢;have c:=q12p hvis o;by_cases j : (decide (goV l p h = w.At) || anyB out (goV l p h) || anyB own (goV l p h)) = true
    · rw [qx j] at a ⊢;exact ⟨_,by rw [Kj a];rfl,fun _=>⟨c,by rw [List.length_append];omega⟩⟩
    · rw [qw j] at a ⊢;obtain ⟨b,e1,r⟩:=qo2 g m w hs out n (h:=Kg l p h) (k:=k + 1) (p:=goV l p h) q8 (q5m hh) (q64.1 d) ⟨fun h=>absurd h qvy,fun h=>q8⟩ q8 c q;exact ⟨b,by rw [Y4 a];exact e1,r⟩
structure Uc (w : Y2) : Prop where
  pt : PtB w.At
  head : 0≤w.Head∧w.Head≤3
  steps : 0≤w.Steps∧w.Steps≤500
abbrev J3 (l : List Qx) (w : Y2) (out : List Q6) : Int × List Q6:=Zn l w.At w.Steps.toNat w.Head.toNat w.At out []
theorem q12r {l : List Qx} (m : l.length≤60) (o : ∀ v∈l,Yf v) {w : Y2} (j : Uc w) {out : List Q6} {vis : List (qc × Bool)} (c : out.length≤400) (d : q1v vis out) :
    ∃ b a,qbr l w out vis = some ((J3 l w out).1,b,a)∧((J3 l w out).1 = 0→a = (J3 l w out).2∧q1v b a∧a.length≤400):=by
  obtain ⟨hp,q,hs⟩:=j;obtain ⟨b,e1,n⟩:=qo2 m o w q8 out w.Steps.toNat (h:=w.Head.toNat) (k:=0) (p:=w.At) (own:=[]) (vis:=vis) q8 q8 hp ⟨fun _=>rfl,fun _=>rfl⟩ (by simpa using c) (by rw [List.append_nil];exact d) (qw0 _ _);rw [show ((w.Head.toNat : Nat) : Int) = w.Head by omega,List.append_nil] at e1;unfold qbr;have g : loop (q2r w l) (w.Head,0,vis,out,w.At.X,w.At.Y) = _:=e1;rw [g,qo];by_cases f : (J3 l w out).1 = 0
  · refine ⟨b,(J3 l w out).2,?_,fun _=>⟨rfl,n f⟩⟩;rw [qx f,f]
  · refine ⟨b,[],?_,fun h=>absurd h f⟩;rw [qw f]
open Classical in
theorem qir {b : Bool} {P : Prop} (h : b = true↔P) : decide P = b:=by
  cases b
  · exact Q9 (fun hp=>by have:=h.2 hp;cases this)
  · exact Q4 (h.1 rfl)
theorem rOnB (s : Q6) (q : qc) : q6b s q = some (onB s q):=by rw [qy5,qir qll]
theorem rInB (q : qc) : q1m q = some (ptB q):=by rw [q96,qir q64]
theorem qmg (i : Int) (a : List Q6) (q : qc) (b : Bool) (g : a.length≤1000) : loop (q4d (i,a) q) (b,0) = some (b || anyB a q):=by
  have:=Ky (f:=q4d (i,a) q) (σ:=Bool) (fun k c=>(c,(k : Int))) a.length (fun k c=>c = (b || anyB (a.take k) q)) (fun o=>o = (b || anyB a q)) ?_ ?_ (k0:=0) (c0:=b) q8 (by simp [anyB])
  · obtain ⟨c,d,rfl⟩:=this;exact d
  · rintro k c hk rfl;refine .inl ⟨b || anyB (a.take (k + 1)) q,?_,rfl⟩;have e : anyB [a[k]] q = onB a[k] q:=by simp [anyB]
    rw [List.take_succ_eq_append_getElem hk,qc6,e];simp only [q4d,dlt' hk,Q7,K0 hk,qo,rOnB];rw [Qb q8];cases b <;> cases anyB (a.take k) q <;> rfl
  · rintro c rfl;exact ⟨_,by simp only [q4d,dnl',Q5];rfl,by rw [List.take_length]⟩
theorem qy8 (a : Int × Int × Int × Int × List Q6) (q : qc) (b : Bool) (c : a.2.2.2.2.length≤1000) : loop (qdl a q) (b,0) = some (b || anyB a.2.2.2.2 q):=qmg 0 a.2.2.2.2 q b c
theorem qy9 {l : List Qx} (hl : l.length≤60) (hv : ∀ v∈l,Yf v) {j : List Y2} {i : Nat} (hi : i < j.length) {h k : Nat} {p : qc} {out own : List Q6}
    (y : h < 4) (hp : PtB p) (hk : (k : Int) < (j[i]).Steps) (aa : k≤1000) (d : out.length + own.length≤400) :
    q2g j ((i : Int),out) l ((h : Int),(k : Int),p.X,p.Y,own) = if ptB (goV l p h) then
      (if 400 < out.length + (ownN own (Kg l p h == h) p (goV l p h)).length then some (.inr (.inr ([],4)))
        else if (decide (goV l p h = (j[i]).At) || anyB out (goV l p h) || anyB own (goV l p h)) = true then some (.inr (.inl (ownN own (Kg l p h == h) p (goV l p h))))
        else some (.inl ((Kg l p h : Int),((k + 1 : Nat) : Int),(goV l p h).X,(goV l p h).Y,ownN own (Kg l p h == h) p (goV l p h))))
      else some (.inr (.inr ([],16))):=by
  have hH:=q5m (l:=l) (p:=p) y;have hP : ({X:=p.X,Y:=p.Y} : qc) = p:=rfl
  have r : (cond (decide ((own.length : Int) > 0)) (some ((Kg l p h : Int) == (h : Int))) (some false)) = some (decide (0 < own.length) && (Kg l p h == h)):=by
    rw [ql6];by_cases g : 0 < own.length
    · rw [Q4 g,Q4 (show (own.length : Int) > 0 by omega)];rfl
    · rw [Q9 g,Q9 (show ¬ (own.length : Int) > 0 by omega)];rfl
  have u:=qof hp hH;rw [show ({X:=p.X + (dirV (Kg l p h)).X,Y:=p.Y + (dirV (Kg l p h)).Y} : qc) = goV l p h from rfl] at u;have hI:=rInB (goV l p h)
  have n : (cond (decide (0 < own.length) && (Kg l p h == h)) ((idx own (w64 ((own.length : Int) - 1))).bind fun v=>some (own.set (w64 ((own.length : Int) - 1)).toNat ({A:=v.A,B:=goV l p h} : Q6))) ((app 32 own [({A:=({X:=p.X,Y:=p.Y} : qc),B:=goV l p h} : Q6)]).bind fun z=>some z)) = some (ownN own (Kg l p h == h) p (goV l p h)):=by
    have c : ∀ t : Q6,app 32 own [t] = some (own ++ [t]):=by
      intro t;rw [Yh (by simp;omega)]
    rcases List.eq_nil_or_concat own with f | ⟨a,s,f⟩
    · subst f;rw [c];rfl
    · rw [List.concat_eq_append] at f;by_cases b : (Kg l p h == h) = true
      · rw [b,f,Q4 qe,Bool.and_self,Q7,q49,qx rfl];obtain ⟨g1,g2⟩:=qn6 a s {A:=s.A,B:=goV l p h} (by rw [f] at d;simp at d;omega);rw [g1,qo,g2]
      · rw [c,f,q49,qw b];simp only [Bool.not_eq_true] at b;rw [b,Bool.and_false,Q5];rfl
  unfold q2g;simp only [K0 hi,qo,Q4 hk,Q7,hP,qsj hl hv hp y,u,hI];by_cases m : ptB (goV l p h) = true
  case neg=>
    rw [qw m];simp only [Bool.not_eq_true] at m;rw [m];rfl
  have o:=qy8 ((h : Int),(k : Int),p.X,p.Y,own) (goV l p h) (decide (goV l p h = (j[i]).At) || anyB out (goV l p h)) (show own.length≤1000 by omega);rw [qx m,m,beqP,qmg _ _ _ _ q8];simp only [Bool.not_true,Q5,qo,o,r,n];have ab:=qvz (own:=own) (go:=Kg l p h == h) (p:=p) (q:=goV l p h);rw [Qb (x:=(out.length : Int) + _) q8,Qb (x:=(k : Int) + 1) q8];by_cases w : 400 < out.length + (ownN own (Kg l p h == h) p (goV l p h)).length
  · rw [qx w,Q4 q8];rfl
  · rw [qw w,Q9 q8,Q5];cases (decide (goV l p h = (j[i]).At) || anyB out (goV l p h) || anyB own (goV l p h)) <;> rfl
theorem qmh {l : List Qx} (g : l.length≤60) (m : ∀ v∈l,Yf v) {c : List Y2} {i : Nat} (hi : i < c.length) (hs : (c[i]).Steps≤1000) (out : List Q6) :
    ∀ (n : Nat) {h k : Nat} {p : qc} {own : List Q6},(k : Int) + n = (c[i]).Steps→h < 4→PtB p→out.length + own.length≤400→
      ∃ b,loop (q2g c ((i : Int),out) l) ((h : Int),(k : Int),p.X,p.Y,own) = some (if (Zn l (c[i]).At n h p out own).1 = 0 then .inl b else .inr ([],(Zn l (c[i]).At n h p out own).1))∧
        ((Zn l (c[i]).At n h p out own).1 = 0→(Zn l (c[i]).At n h p out own).2 = out ++ b∧out.length + b.length≤400)
  | 0,h,k,p,own,hk,hh,hp,hlen=>by
    refine ⟨own,?_,fun _=>⟨rfl,hlen⟩⟩
    have : q2g c ((i : Int),out) l ((h : Int),(k : Int),p.X,p.Y,own) = some (.inr (.inl own)):=by
      unfold q2g;simp only [K0 hi,qo];rw [Q9 (show ¬ ((k : Int) < (c[i]).Steps) by omega),Q5]
    rw [Kj this]
    rfl
  | n + 1,h,k,p,own,hk,hh,hp,hlen=>by
    have a:=qy9 g m hi (h:=h) (k:=k) (p:=p) (out:=out) (own:=own) hh hp q8 q8 hlen;rw [Zn];by_cases d : ptB (goV l p h) = true
    case neg=>
      rw [qw d] at a ⊢;exact ⟨[],by rw [Kj a];rfl,fun h=>by cases h⟩
    rw [qx d] at a ⊢;by_cases f : 400 < out.length + (ownN own (Kg l p h == h) p (goV l p h)).length
    · rw [qx f] at a ⊢;exact ⟨[],by rw [Kj a];rfl,fun h=>by cases h⟩
    rw [qw f] at a ⊢;by_cases j : (decide (goV l p h = (c[i]).At) || anyB out (goV l p h) || anyB own (goV l p h)) = true
    · rw [qx j] at a ⊢;exact ⟨_,by rw [Kj a];rfl,fun _=>⟨rfl,q8⟩⟩
    · rw [qw j] at a ⊢;obtain ⟨b,e1,o⟩:=qmh g m hi hs out n (h:=Kg l p h) (k:=k + 1) (p:=goV l p h) (own:=ownN own (Kg l p h == h) p (goV l p h)) q8 (q5m hh) (q64.1 d) q8;exact ⟨b,by rw [Y4 a];exact e1,o⟩
end Go.Sh
namespace Go.Sh
open Go Go.Am
open Classical
theorem q5f {α β : Type} {f : Int→Option (Int ⊕ (Unit ⊕ β))} {l : List α} {P : α→Prop} {z : β} (m : l.length≤1000)
    (hs : ∀ k (hk : k < l.length),f (k : Int) = if P l[k] then some (.inl (w64 ((k : Int) + 1))) else some (.inr (.inr z))) (hd : f (l.length : Int) = some (.inr (.inl ()))) : loop f 0 = some (if ∀ v∈l,P v then .inl () else .inr z):=by
  have:=Ky (f:=f) (σ:=Unit) (fun k _=>(k : Int)) l.length (fun k _=>∀ i (hi : i < l.length),i < k→P l[i]) (fun o=>o = if ∀ v∈l,P v then .inl () else .inr z) ?_ ?_ (k0:=0) (c0:=()) q8 (fun i hi h=>q8)
  · obtain ⟨b,g,rfl⟩:=this;exact g
  · rintro k _ hk c;have:=hs k hk;by_cases a : P l[k]
    · rw [qx a,Qb q8] at this;refine .inl ⟨(),by rw [this];rfl,fun i hi j=>?_⟩;by_cases e : i = k
      · subst e;exact a
      · exact c i hi q8
    · rw [qw a] at this;exact .inr ⟨_,this,by rw [qw (fun h=>a (h _ (Ks hk)))]⟩
  · rintro _ c;refine ⟨_,hd,?_⟩;rw [qx];intro s d;obtain ⟨i,hi,rfl⟩:=List.mem_iff_getElem.1 d;exact c i hi hi
theorem qo1 (w : Y2) (j : 0≤w.Head) : ((cond (!decide (PtB w.At)) (some true) (some (decide (w.Head > 3)))).bind fun b=>(cond b (some true) (some (decide (w.Steps < 0)))).bind fun c=>(cond c (some true) (some (decide (w.Steps > 500))))) = some (!decide (Uc w)):=by
  by_cases a : PtB w.At
  case neg=>simp [a];exact fun h=>a h.pt
  by_cases d : w.Head > 3
  · simp [d,a];exact fun h=>by have:=h.head;omega
  by_cases f : w.Steps < 0
  · simp [d,a,f];exact fun h=>by have:=h.steps;omega
  by_cases g : w.Steps > 500
  · simp [d,a,f,g];exact fun h=>by have:=h.steps;omega
  · simp [d,a,f,g];exact ⟨a,q8,q8⟩
theorem qse (a : List Y2) (c : a.length≤1000) (d : ∀ w∈a,0≤w.Head) : loop (q7a a) 0 = some (if ∀ w∈a,Uc w then .inl () else .inr (net0,8))∧loop (q68 a) 0 = some (if ∀ w∈a,Uc w then .inl () else .inr (net0,8)):=by
  constructor
  · refine q5f c (fun k hk=>?_) (by simp only [q7a,dnl',Q5]);have hp:=qo1 a[k] (d _ (Ks hk));simp only [q7a,dlt' hk,Q7,K0 hk,qo,qfg];simp only [← Option.bind_assoc] at hp ⊢;rw [hp];by_cases b : Uc a[k]
    · rw [qx b,Q4 b];rfl
    · rw [qw b,Q9 b];rfl
  · refine q5f c (fun k hk=>?_) (by simp only [q68,dnl',Q5]);have hp:=qo1 a[k] (d _ (Ks hk));simp only [q68,dlt' hk,Q7,K0 hk,qo,q96];simp only [← Option.bind_assoc] at hp ⊢;rw [hp];by_cases b : Uc a[k]
    · rw [qx b,Q4 b];rfl
    · rw [qw b,Q9 b];rfl
theorem neI (a : Int) : (a != 0) = !decide (a = 0):=by rw [bne,beqI]
theorem qjt {l : List Qx} (m : l.length≤60) (o : ∀ v∈l,Yf v) (a : List Y2) (k : ∀ w∈a,Uc w) (g : a.length≤1000) :
    ∀ (n i : Nat) {segs : List Q6} {vis : List (qc × Bool)},i + n = a.length→q1v vis segs→segs.length≤400→
      loop (q2o a l) ((i : Int),segs,vis) = some (if (Zd l (a.drop i) segs).1 = 0 then .inl (Zd l (a.drop i) segs).2 else .inr (net0,(Zd l (a.drop i) segs).1))∧((Zd l (a.drop i) segs).1 = 0→(Zd l (a.drop i) segs).2.length≤400)
  | 0,i,segs,vis,hi,hvis,hs=>by
    have : a.drop i = []:=List.drop_eq_nil_of_le q8
    rw [this]
    refine ⟨?_,fun _=>hs⟩
    have : q2o a l ((i : Int),segs,vis) = some (.inr (.inl segs)):=by
      unfold q2o;rw [Q9 (show ¬ ((i : Int) < (a.length : Int)) by omega),Q5]
    rw [Kj this];rfl
  | n + 1,i,segs,vis,hi,hvis,hs=>by
    have d : i < a.length:=by omega
    obtain ⟨j,f,e1,q⟩:=q12r m o (k _ (Ks d)) hs hvis;rw [List.drop_eq_getElem_cons d,Zd]
    have c : q2o a l ((i : Int),segs,vis) = if (J3 l a[i] segs).1 = 0 then some (.inl (((i + 1 : Nat) : Int),f,j)) else some (.inr (.inr (net0,(J3 l a[i] segs).1))):=by
      unfold q2o;simp only [Q4 (show ((i : Int) < (a.length : Int)) by omega),Q7,K0 d,qo,e1,neI];rw [Qb q8];by_cases b : (J3 l a[i] segs).1 = 0
      · rw [qx b,Q4 b];rfl
      · rw [qw b,Q9 b];rfl
    by_cases b : (J3 l a[i] segs).1 = 0
    · rw [qx b] at c ⊢;obtain ⟨rfl,p,r⟩:=q b;rw [Y4 c];exact qjt m o a k g n (i + 1) q8 p r
    · rw [qw b] at c ⊢;rw [Kj c];exact ⟨by rw [qw b],fun h=>absurd h b⟩
theorem qju {l : List Qx} (s : l.length≤60) (t : ∀ v∈l,Yf v) (a : List Y2) (q : ∀ w∈a,Uc w) (j : a.length≤1000) :
    ∀ (n i : Nat) {segs : List Q6},i + n = a.length→segs.length≤400→
      loop (q2f a l) ((i : Int),segs) = some (if (Zd l (a.drop i) segs).1 = 0 then .inl (Zd l (a.drop i) segs).2 else .inr ([],(Zd l (a.drop i) segs).1))
  | 0,i,segs,hi,hs=>by
    have : a.drop i = []:=List.drop_eq_nil_of_le q8
    rw [this]
    have : q2f a l ((i : Int),segs) = some (.inr (.inl segs)):=by
      unfold q2f;rw [Q9 (show ¬ ((i : Int) < (a.length : Int)) by omega),Q5]
    rw [Kj this];rfl
  | n + 1,i,segs,hi,hs=>by
    have f : i < a.length:=by omega
    have g:=q _ (Ks f);have x:=g.head;have y:=g.steps;obtain ⟨b,e1,o⟩:=qmh s t f q8 segs (a[i]).Steps.toNat (h:=(a[i]).Head.toNat) (k:=0) (p:=(a[i]).At) (own:=[]) q8 q8 g.pt (by simpa using hs);rw [show (((a[i]).Head.toNat : Nat) : Int) = (a[i]).Head by omega] at e1;have m : loop (q2g a ((i : Int),segs) l) ((a[i]).Head,0,(a[i]).At.X,(a[i]).At.Y,[]) = some (if (J3 l a[i] segs).1 = 0 then .inl b else .inr ([],(J3 l a[i] segs).1)):=e1;rw [List.drop_eq_getElem_cons f,Zd]
    have d : q2f a l ((i : Int),segs) = if (J3 l a[i] segs).1 = 0 then some (.inl (((i + 1 : Nat) : Int),segs ++ b)) else some (.inr (.inr ([],(J3 l a[i] segs).1))):=by
      unfold q2f;simp only [Q4 (show ((i : Int) < (a.length : Int)) by omega),Q7,K0 f,qo,m];by_cases c : (J3 l a[i] segs).1 = 0
      · have:=(o c).2;rw [qx c,qx c];show (app 32 segs b).bind _ = _;rw [Yh q8,qo,Qb q8];rfl
      · rw [qw c,qw c]
    by_cases c : (J3 l a[i] segs).1 = 0
    · rw [qx c] at d ⊢;obtain ⟨r,u⟩:=o c;rw [Y4 d,← r];exact qju s t a q j n (i + 1) q8 (by rw [r];simpa using u)
    · rw [qw c] at d ⊢;rw [Kj d,qw c]
theorem qrs {l : List Qx} (h : Uf l = 0) : l.length≤60∧∀ v∈l,Yf v:=by
  unfold Uf at h;by_cases a : 60 < l.length
  · rw [qx a] at h;cases h
  · rw [qw a] at h;by_cases b : ∀ v∈l,Yf v
    · exact ⟨q8,b⟩
    · rw [qw b] at h;cases h
noncomputable def q85 (l : List Qx) (ws : List Y2) : Option (K5 × Int):=
  if Uf l≠0 then some (net0,Uf l) else if 30 < ws.length then some (net0,4) else if ∀ w∈ws,Uc w then (if (Zd l ws []).1 = 0 then Ux (Zd l ws []).2 else some (net0,(Zd l ws []).1)) else some (net0,8)
theorem qi1 {α β : Type} (o : Option (α × β)) : (o.bind fun r=>some (r.1,r.2)) = o:=by cases o <;> rfl
theorem qyp (l : List Q6) : Uu l = Ux l:=by
  obtain ⟨n,c,e1,a,_⟩:=qkm l;rw [e1,a]
theorem qsf (l : List Qx) (a : List Y2) (p : ∀ w∈a,0≤w.Head) : qbn l a = q85 l a∧q92 l a = q85 l a:=by
  unfold qbn q92 q85;rw [qja,qy6];simp only [qo,neI];by_cases d : Uf l = 0
  case neg=>rw [Q9 d,qx d];exact ⟨rfl,rfl⟩
  rw [Q4 d,qw (fun h=>h d),Bool.not_true,Q5,Q5];by_cases k : 30 < a.length
  · rw [Q4 (show (a.length : Int) > 30 by omega),qx k];exact ⟨rfl,rfl⟩
  rw [Q9 (show ¬ (a.length : Int) > 30 by omega),qw k,Q5,Q5];obtain ⟨o,n⟩:=qse a q8 p;rw [o,n];by_cases c : ∀ w∈a,Uc w
  case neg=>rw [qw c,qw c];exact ⟨rfl,rfl⟩
  rw [qx c,qx c];obtain ⟨f1,j⟩:=qrs d;obtain ⟨e1,q⟩:=qjt f1 j a c q8 a.length 0 (segs:=[]) (vis:=[]) q8 q12o qe;have m:=qju f1 j a c q8 a.length 0 (segs:=[]) q8 qe;rw [List.drop_zero] at e1 m;have g : loop (q2o a l) (0,[],[]) = _:=e1;have f : loop (q2f a l) (0,[]) = _:=m;unfold qdk;rw [qo,qo,f,g];by_cases b : (Zd l a []).1 = 0
  · rw [qx b,qx b,qx b,qo,qo];refine ⟨qi1 _,?_⟩;show (Option.bind (some ((Zd l a []).2,(0 : Int))) _) = _;rw [qo];show (Uu _).bind _ = _;rw [qyp];exact qi1 _
  · rw [qw b,qw b,qw b,qo,qo];refine ⟨rfl,?_⟩;show (Option.bind (some (([] : List Q6),(Zd l a []).1)) _) = _;rw [qo];simp only [neI,Q9 b];rfl
theorem qsd (l : List Qx) (a : List Y2) : ∃ n c,q85 l a = some (n,c)∧n.Nodes.length≤400∧n.Edges.length≤800:=by
  have b : net0.Nodes.length≤400∧net0.Edges.length≤800:=by decide
  unfold q85;by_cases g : Uf l≠0
  · rw [qx g];exact ⟨_,_,rfl,b⟩
  rw [qw g];by_cases d : 30 < a.length
  · rw [qx d];exact ⟨_,_,rfl,b⟩
  rw [qw d];by_cases f : ∀ w∈a,Uc w
  · rw [qx f];by_cases h : (Zd l a []).1 = 0
    · rw [qx h];obtain ⟨n,c,e1,_,j,k⟩:=qkm (Zd l a []).2;exact ⟨n,c,e1,j,k⟩
    · rw [qw h];exact ⟨_,_,rfl,b⟩
  · rw [qw f];exact ⟨_,_,rfl,b⟩
theorem qsc (l : List Qx) (a : List Y2) : ∃ b,q89 l a = some b:=by
  unfold q89
  have n : ∃ b,((cond (decide ((l.length : Int) > 80)) (some true) ((cond (decide ((a.length : Int) > 8)) (some (decide ((a.length : Int)≤30))) (some false)).bind fun g=>some g))) = some b:=by
    cases decide ((l.length : Int) > 80)
    · cases decide ((a.length : Int) > 8)
      · exact ⟨_,rfl⟩
      · exact ⟨_,rfl⟩
    · exact ⟨_,rfl⟩
  obtain ⟨b,hb⟩:=n;rw [hb,qo];cases b
  · rw [Q5,qo];by_cases j : (a.length : Int) > 40
    · rw [Q4 j];exact ⟨_,rfl⟩
    · rw [Q9 j,Q5];have:=q5f (f:=q5q a) (l:=a) (P:=fun w=>¬ (w.Steps > 60∧w.Steps≤500)) (z:=true) q8 (fun k hk=>?_) (by simp only [q5q,dnl',Q5])
      · rw [this,qo];by_cases m : ∀ w∈a,¬ (w.Steps > 60∧w.Steps≤500)
        · rw [qx m];exact ⟨_,rfl⟩
        · rw [qw m];exact ⟨_,rfl⟩
      · simp only [q5q,dlt' hk,Q7,K0 hk,qo];by_cases c : (a[k]).Steps > 60
        · by_cases d : (a[k]).Steps≤500
          · rw [Q4 c,Q4 d,qw (fun h=>h ⟨c,d⟩)];rfl
          · rw [Q4 c,Q9 d,qx (fun h=>d h.2)];rfl
        · rw [Q9 c,qx (fun h=>c h.1)];rfl
  · exact ⟨_,rfl⟩
theorem q13j {n : Int} (h : (Lit.int .u8 n).wf = true) : 0≤n:=by
  simp [Lit.wf,IntKind.min,IntKind.max,IntKind.signed,IntKind.bits] at h;omega
theorem q13f (l : List Qx) (d : List Y2) (g : ∀ w∈d,0≤w.Head) : qcy l d = some true:=by
  unfold qcy;obtain ⟨b,hb⟩:=qsc l d;rw [hb,qo];cases b
  · obtain ⟨e1,h⟩:=qsf l d g;obtain ⟨n,c,f,k,j⟩:=qsd l d;have a:=qz3 n n q8 q8;rw [Q5,e1,h,f];simp only [qo,a,decide_true,Q7,beq_self_eq_true]
  · rfl
end Go.Sh
