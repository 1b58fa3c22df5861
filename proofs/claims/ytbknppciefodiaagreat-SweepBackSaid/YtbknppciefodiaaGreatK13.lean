/- Sw6 Sw7 Sw8 Sw9 Sw10 -/
import Derived.Test.YtbknppciefodiaaGreatK12
namespace Go.Sh
open Go Go.Am
theorem qia {l : Qy} {b : List qg} (h : (barS l b).2 = 0) (k : b.length≤400) : (∀ x∈b,vB (swp l.From l.To x))∧(barS l b).1 = mrgB 2 (b.map (swp l.From l.To)) []∧K0 (barS l b).1 = 0∧∀ x y z,hasB (barS l b).1 x y z↔hasB (b.map (swp l.From l.To)) x y z:=by
  unfold barS at h ⊢
  by_cases a : ∀ x∈b,vB (swp l.From l.To x)
  · rw [qq a] at h ⊢
    have f : ∀ y∈b.map (swp l.From l.To),vB y:=by intro y j;obtain ⟨x,g,rfl⟩:=List.mem_map.1 j;exact a x g
    unfold mkB at h ⊢
    rw [qp (by simp;omega),qq f] at h ⊢
    by_cases c : 400 < (mrgB 2 (b.map (swp l.From l.To)) []).length
    · rw [qq c] at h;simp at h
    · rw [qp c]
      have d:=q95 2 (p:=b.map (swp l.From l.To)) (q:=[]) (by simp;omega)
      exact ⟨a,rfl,Yd.2 ⟨by simpa using c,d.vB (InB.mrg (by simp;omega) (qhd f) .nil),d⟩,fun x y z=>qkf (by simp;omega) x y z⟩
  · rw [qp a] at h;simp at h
theorem qph (l : Qy) (b : List qg) (h : b.length≤400) : (barS l b).2 = 0∨((barS l b).1 = []∧((barS l b).2 = 4∨(barS l b).2 = 16)):=by
  unfold barS
  by_cases a : ∀ x∈b,vB (swp l.From l.To x)
  · have g : ∀ y∈b.map (swp l.From l.To),vB y:=by intro y f;obtain ⟨x,d,rfl⟩:=List.mem_map.1 f;exact a x d
    rw [qq a]
    unfold mkB
    rw [qp (by simp;omega),qq g]
    by_cases c : 400 < (mrgB 2 (b.map (swp l.From l.To)) []).length
    · rw [qq c];exact .inr ⟨rfl,.inl rfl⟩
    · rw [qp c];exact .inl rfl
  · rw [qp a];exact .inr ⟨rfl,.inr rfl⟩
theorem qed {t : Qp} {bs : List (List qg)} (h : Yu t bs) {l : Qy} (a : l∈t.Lines) : K0 (Ur bs l) = 0:=h.brush _ (qih h a).2
theorem qbq {t : Qp} {bs : List (List qg)} (h : (Kd t bs).2 = 0) : Yu t bs∧(∀ l∈t.Lines,(barB bs l).2 = 0)∧(Kd t bs).1 = t.Lines.map fun l=>(barB bs l).1:=by
  unfold Kd at h ⊢
  by_cases a : chkS t bs = 0
  · rw [qp (not_not_intro a)] at h ⊢
    by_cases b : fstE (barB bs) t.Lines = 0
    · rw [qq b]
      exact ⟨q3o.1 a,qf9.1 b,rfl⟩
    · rw [qp b] at h;exact absurd h b
  · rw [qq a] at h;exact absurd h a
theorem q8j {t : Qp} {bs : List (List qg)} : ∀ b∈(Kd t bs).1,K0 b = 0:=by
  by_cases h : (Kd t bs).2 = 0
  · obtain ⟨f,j,g⟩:=qbq h
    rw [g]
    intro b hb
    obtain ⟨l,d,rfl⟩:=List.mem_map.1 hb
    exact (qia (j l d) (Yd.1 (qed f d)).1).2.2.1
  · have : (Kd t bs).1 = []:=by
      unfold Kd at h ⊢
      by_cases a : chkS t bs = 0
      · rw [qp (not_not_intro a)] at h ⊢
        by_cases c : fstE (barB bs) t.Lines = 0
        · rw [qq c] at h;exact absurd rfl h
        · rw [qp c]
      · rw [qq a]
    rw [this];intro b hb;cases hb
theorem qxa (p : List (List qg)) (c : p.length≤1000000) (hb : ∀ b∈p,b.length≤1000000) : q9i p p = some true:=by
  unfold q9i
  rw [show ((p.length : Int) != (p.length : Int)) = false by simp,qy]
  rcases Z8 p (fun _=>false) (fun k _=>false) () (q6e p p) (fun k a=>by
    simp only [q6e,dlt a,Q1,Qu a,qj,w64s a c,sameBox _ _ (hb _ (Kv a)),decide_true,Bool.not_true,qy]
    rfl) (by simp only [q6e,dnl,qy]) with ⟨a1,a2⟩ | ⟨k,a,hc,_,a2⟩
  · rw [a2];rfl
  · cases hc
def q1t (l : Qy) : Prop:=(InV l.From (-2000000)∧InV l.To (-2000000))∧(max (max (max (max (max (l.From.X - l.To.X) (l.To.X - l.From.X)) (l.From.Y - l.To.Y)) (l.To.Y - l.From.Y)) (l.From.Z - l.To.Z)) (l.To.Z - l.From.Z))≤30
instance (l : Qy) : Decidable (q1t l):=by unfold q1t;infer_instance
theorem qs8 (t : Qp) (bs : List (List qg)) : q69 t bs = some true∨(q69 t bs = some false∧Small t bs):=by
  unfold q69
  by_cases o : 12 < t.Lines.length
  · rw [Q7 (by omega : (t.Lines.length : Int) > 12)];exact .inl rfl
  by_cases p : 50 < t.Marks.length
  · rw [Q6 (by omega : ¬ (t.Lines.length : Int) > 12),Q7 (by omega : (t.Marks.length : Int) > 50)];exact .inl rfl
  by_cases n : 25 < bs.length
  · rw [Q6 (by omega : ¬ (t.Lines.length : Int) > 12),Q6 (by omega : ¬ (t.Marks.length : Int) > 50),Q7 (by omega : (bs.length : Int) > 25)];exact .inl rfl
  rw [Q6 (by omega : ¬ (t.Lines.length : Int) > 12),Q6 (by omega : ¬ (t.Marks.length : Int) > 50),Q6 (by omega : ¬ (bs.length : Int) > 25)]
  simp only [qy,qj]
  rcases Z8 t.Lines (fun l=>!decide (q1t l)) (fun k _=>true) () (q6a t) (fun k a=>by
    simp only [q6a,dlt a,Q1,Qu a,qj,w64s a (show t.Lines.length≤1000000 by omega),qbg]
    generalize t.Lines[k] = l
    by_cases c : InV l.From (-2000000)
    · by_cases d : InV l.To (-2000000)
      · have j:=c;have g:=d
        unfold InV at j g
        rw [Qm q0,Qm q0,Qm q0,Qm q0,Qm q0,Qm q0]
        have e : decide (max (max (max (max (max (l.From.X - l.To.X) (l.To.X - l.From.X)) (l.From.Y - l.To.Y)) (l.To.Y - l.From.Y)) (l.From.Z - l.To.Z)) (l.To.Z - l.From.Z) > 30) = !decide (q1t l):=by
          rw [Bool.eq_iff_iff];simp only [decide_eq_true_eq,Bool.not_eq_true',decide_eq_false_iff_not,q1t,c,d,true_and,and_true];omega
        rw [e,Q7 c,Q7 d]
        cases decide (q1t l) <;> rfl
      · have e : decide (q1t l) = false:=Q6 fun h=>d h.1.2
        rw [e,Q7 c,Q6 d];rfl
    · have e : decide (q1t l) = false:=Q6 fun h=>c h.1.1
      rw [e,Q6 c];rfl) (by simp only [q6a,dnl,qy]) with ⟨a1,a2⟩ | ⟨k,a,hc,_,a2⟩
  rotate_left
  · rw [a2];exact .inl rfl
  rw [a2]
  simp only [qj]
  rcases Z8 bs (fun b=>decide (5 < b.length)) (fun k _=>true) () (q6b bs) (fun k a=>by
    simp only [q6b,dlt a,Q1,Qu a,qj,w64s a (show bs.length≤1000000 by omega)]
    by_cases h : 5 < bs[k].length
    · rw [Q7 (by omega : (bs[k].length : Int) > 5)];simp [h]
    · rw [Q6 (by omega : ¬ (bs[k].length : Int) > 5)];simp [h]) (by simp only [q6b,dnl,qy]) with ⟨b1,b2⟩ | ⟨k,a,hc,_,b2⟩
  rotate_left
  · rw [b2];exact .inl rfl
  rw [b2]
  refine .inr ⟨rfl,q0,q0,q0,fun l m=>?_,fun b hb=>by simpa using b1 b hb⟩
  have f : q1t l:=by simpa using a1 l m
  refine ⟨f.1,?_⟩
  have:=qto l.From l.To
  have:=f.2
  omega
def oneT (l : Qy) : Qp:=({Lines:=[l],Marks:=[],End:=({Frame:=({Turn:=0,At:=({X:=0,Y:=0,Z:=0} : Qa)} : Kl),Drawn:=0} : Yi)} : Qp)
noncomputable def barT (l : Qy) (b : List qg) : List qg × Int:=if ¬ TOk (oneT l) then ([],8) else if K0 b≠0 then ([],K0 b) else barS l b
theorem qx9 (l : Qy) (b : List qg) : qb3 l b = some (barT l b):=by
  obtain ⟨n,d⟩:=qol (oneT l) (by simp [oneT]) (by simp [oneT])
  unfold qb3 barT
  rw [show q54 ({Lines:=[l],Marks:=[],End:=({Frame:=({Turn:=0,At:=({X:=0,Y:=0,Z:=0} : Qa)} : Kl),Drawn:=0} : Yi)} : Qp) = _ from d]
  simp only [qj]
  by_cases a : TOk (oneT l)
  · rw [qq a,qp (not_not_intro a),show ((0 : Int) != 0) = false from rfl,qy]
    rw [qdf,qj]
    by_cases c : K0 b = 0
    · have g : LOk l:=a.2.1 l (by simp [oneT])
      obtain ⟨hb,f,_⟩:=Yd.1 c
      rw [c,qp qx,show ((0 : Int) != 0) = false from rfl,qy,qod g hb f];rfl
    · rw [qq c,show (K0 b != 0) = true by simpa using c];rfl
  · rw [qp a,qq a];rfl
end Go.Sh
namespace Go.Sh
open Go Go.Am
noncomputable def Ya : List qg→List (List qg)→List qg × Int
  | o,[]=>(o,0)
  | o,b::r=>if (jB 2 o b).2≠0 then ([],(jB 2 o b).2) else Ya (jB 2 o b).1 r
theorem qfk {p q : List qg} (hp : K0 p = 0) (d : K0 q = 0) : (jB 2 p q = ([],4))∨((jB 2 p q).2 = 0∧K0 (jB 2 p q).1 = 0∧∀ x y z,hasB (jB 2 p q).1 x y z↔hasB p x y z∨hasB q x y z):=by
  rcases qsn 2 hp d with h | ⟨a,c,b⟩
  · exact .inl h
  · rw [a];exact .inr ⟨rfl,c,fun x y z=>by rw [b,q3w]⟩
theorem qca : ∀ {l : List (List qg)} {o : List qg},K0 o = 0→(∀ b∈l,K0 b = 0)→Ya o l = ([],4)∨((Ya o l).2 = 0∧K0 (Ya o l).1 = 0∧∀ x y z,hasB (Ya o l).1 x y z↔hasB o x y z∨∃ b∈l,hasB b x y z)
  | [],o,ho,_=>.inr ⟨rfl,ho,fun x y z=>by simp [Ya]⟩
  | b::r,o,ho,hb=>by
    rcases qfk ho (hb b qe) with h | ⟨j,m,f⟩
    · left;unfold Ya;rw [h];rfl
    · have e : Ya o (b::r) = Ya (jB 2 o b).1 r:=by rw [Ya,qp (by simp [j])]
      rw [e]
      rcases qca (l:=r) m (fun c a=>hb c (by simp [a])) with g | ⟨k,d,n⟩
      · exact .inl g
      · refine .inr ⟨k,d,fun x y z=>?_⟩
        rw [n,f]
        constructor
        · rintro ((h | h) | ⟨c,a,h⟩)
          · exact .inl h
          · exact .inr ⟨b,qe,h⟩
          · exact .inr ⟨c,by simp [a],h⟩
        · rintro (h | ⟨c,a,h⟩)
          · exact .inl (.inl h)
          · rcases List.mem_cons.1 a with rfl | a
            · exact .inl (.inr h)
            · exact .inr ⟨c,a,h⟩
theorem qsq {src : List (List qg)} (c : ∀ b∈src,K0 b = 0) {f : List qg × Int→Option ((List qg × Int) ⊕ ((List qg) ⊕ (List qg × Int)))}
    (hs : ∀ k (m : k < src.length) (o : List qg),K0 o = 0→f (o,(k : Int)) = some (if (jB 2 o src[k]).2≠0 then .inr (.inr ([],(jB 2 o src[k]).2)) else .inl ((jB 2 o src[k]).1,((k + 1 : Nat) : Int))))
    (hd : ∀ o,f (o,(src.length : Int)) = some (.inr (.inl o))) : loop f ([],0) = some (if (Ya [] src).2 = 0 then .inl (Ya [] src).1 else .inr ([],(Ya [] src).2)):=by
  have key : ∀ (r pre : List (List qg)) (o : List qg),src = pre ++ r→K0 o = 0→loop f (o,(pre.length : Int)) = some (if (Ya o r).2 = 0 then .inl (Ya o r).1 else .inr ([],(Ya o r).2)):=by
    intro r
    induction r with
    | nil=>
      intro pre o h _
      rw [List.append_nil] at h;subst h
      rw [Kg (hd _)];rfl
    | cons a r ih=>
      intro pre o h l
      have m : pre.length < src.length:=by rw [h];simp
      have p : src[pre.length] = a:=by simp [h]
      have d:=hs pre.length m o l
      rw [p] at d
      have g : K0 a = 0:=c a (by rw [h];simp)
      rcases qfk l g with j | ⟨n,q,_⟩
      · rw [j,qq qx] at d
        have e : Ya o (a::r) = ([],4):=by unfold Ya;rw [j];rfl
        rw [Kg d,e];rfl
      · rw [qp (by simp [n])] at d
        have e : Ya o (a::r) = Ya (jB 2 o a).1 r:=by rw [Ya,qp (by simp [n])]
        rw [Y3 d,e]
        have:=ih (pre ++ [a]) (jB 2 o a).1 (by rw [h];simp) q
        simpa using this
  exact key src [] [] rfl q8k
noncomputable def Yc (t : Qp) (bs : List (List qg)) : List qg × Int:=if (Kd t bs).2≠0 then ([],(Kd t bs).2) else Ya [] (Kd t bs).1
theorem qie (t : Qp) (bs : List (List qg)) : (Kd t bs).1.length≤t.Lines.length:=by
  by_cases a : (Kd t bs).2 = 0
  · rw [(qbq a).2.2];simp
  · have : (Kd t bs).1 = []:=by
      unfold Kd at a ⊢
      split
      · rfl
      · rename_i b
        rw [qp b] at a
        split at a
        · exact absurd rfl a
        · rename_i c;rw [qp c]
    rw [this];simp
theorem q12v {R : List (List qg) × Int} (c : R.1.length≤1000000) (k : Nat) (b : k < R.1.length) (o : List qg) : q51 R (o,(k : Int)) = some (if (jB 2 o R.1[k]).2≠0 then .inr (.inr ([],(jB 2 o R.1[k]).2)) else .inl ((jB 2 o R.1[k]).1,((k + 1 : Nat) : Int))):=by
  simp only [q51,dlt b,Q1,Qu b,qj,qnm,w64s b c]
  generalize jB 2 o R.1[k] = q
  by_cases a : q.2 = 0
  · rw [qp (not_not_intro a),a];rfl
  · rw [qq a,show (q.2 != 0) = true by simpa using a,Q1]
theorem qh8 (t : Qp) (bs : List (List qg)) (d : t.Lines.length≤1000000) (n : t.Marks.length≤1000000) (j : bs.length≤1000000) : q19 t bs = some (Yc t bs):=by
  unfold q19 Yc
  have h:=qie t bs
  have c:=q8j (t:=t) (bs:=bs)
  rw [qbp t bs d n j,qj]
  generalize Kd t bs = R at h c ⊢
  by_cases b : R.2 = 0
  · rw [qp (not_not_intro b),b,show ((0 : Int) != 0) = false from rfl,qy]
    rw [qsq c (f:=q51 R) (fun k m o _=>q12v (Nat.le_trans h d) k m o) (fun o=>by simp only [q51,dnl,qy])]
    by_cases a : (Ya [] R.1).2 = 0
    · rw [qq a];simp only [qj];exact congrArg some (Prod.ext rfl a.symm)
    · rw [qp a]
      rcases qca q8k c with g | ⟨l,_⟩
      · rw [g];rfl
      · exact absurd l a
  · rw [qq b,show (R.2 != 0) = true by simpa using b,Q1]
def U7 (p q : Qy) : Prop:=p.From≠q.From∧p.From≠q.To∧p.To≠q.From∧p.To≠q.To
instance (p q : Qy) : Decidable (U7 p q):=by unfold U7;infer_instance
theorem q13f (p q : Qa) : ((p.X == q.X) && ((p.Y == q.Y) && ((p.Z == q.Z) && true))) = decide (p = q):=by
  rw [Bool.eq_iff_iff];simp [q13e]
theorem qp6 (p q : Qy) : qb4 p q = some (decide (U7 p q)):=by
  unfold qb4 U7
  simp only [q13f]
  by_cases c : p.From = q.From <;> by_cases a : p.From = q.To <;> by_cases d : p.To = q.From <;> by_cases b : p.To = q.To <;> simp [c,a,d,b]
def qcd (a b : List qg) : Prop:=∃ x y z,hasB a x y z∧hasB b x y z
theorem qnu (l : List qg) (d : l.length≤1000000) (p : qg→Option Bool) (c : qg→Bool) (h : ∀ v∈l,p v = some (c v)) : q20 l p = some (l.any c):=by
  unfold q20 q9v
  rcases Z8 l c (fun k _=>(k : Int)) () (q17 l p) (fun k a=>by
    simp only [q17,dlt a,Q1,Qu a,qj,w64s a d,h _ (Kv a)]
    cases c l[k] <;> simp) (by simp only [q17,dnl,qy]) with ⟨h1,h2⟩ | ⟨k,a,hc,_,h2⟩
  · rw [h2]
    have : l.any c = false:=by rw [List.any_eq_false];exact fun v b=>by rw [h1 v b];simp
    rw [this];rfl
  · rw [h2]
    have : l.any c = true:=List.any_eq_true.2 ⟨_,Kv a,hc⟩
    simp only [qj]
    rw [this,Q7 q0]
def ovB (p q : qg) : Prop:=((q.Lo.X < p.Hi.X∧p.Lo.X < q.Hi.X)∧q.Lo.Y < p.Hi.Y∧p.Lo.Y < q.Hi.Y)∧q.Lo.Z < p.Hi.Z∧p.Lo.Z < q.Hi.Z
instance (p q : qg) : Decidable (ovB p q):=by unfold ovB;infer_instance
theorem qva (p q : qg) : q88 p q = some (decide (ovB p q)):=by
  unfold q88 ovB
  by_cases a : q.Lo.X < p.Hi.X <;> by_cases d : p.Lo.X < q.Hi.X <;> by_cases b : q.Lo.Y < p.Hi.Y <;> by_cases f : p.Lo.Y < q.Hi.Y <;> by_cases g : q.Lo.Z < p.Hi.Z <;> by_cases c : p.Lo.Z < q.Hi.Z <;> simp [a,d,b,f,g,c]
theorem qlw {p q : qg} (hp : ltB p) (a : ltB q) : ovB p q↔∃ x y z,inB p x y z∧inB q x y z:=by
  obtain ⟨j,p2,p3⟩:=hp
  obtain ⟨h,d,c⟩:=a
  constructor
  · rintro ⟨⟨⟨l,r⟩,f,s⟩,t,g⟩
    exact ⟨max p.Lo.X q.Lo.X,max p.Lo.Y q.Lo.Y,max p.Lo.Z q.Lo.Z,⟨q0,q0,q0⟩,⟨q0,q0,q0⟩⟩
  · rintro ⟨x,y,z,⟨m,b,n⟩,⟨b1,o,k⟩⟩
    exact ⟨⟨⟨q0,q0⟩,q0,q0⟩,q0,q0⟩
open Classical in
theorem qtg {a b : List qg} (n : K0 a = 0) (hb : K0 b = 0) : qb8 a b = some (decide (qcd a b)):=by
  obtain ⟨la,m,_⟩:=Yd.1 n
  obtain ⟨o,l,_⟩:=Yd.1 hb
  unfold qb8
  rw [qnu a q0 _ (fun x=>b.any fun y=>decide (ovB y x)) (fun x c=>by
    unfold qb9
    rw [qnu b q0 _ (fun y=>decide (ovB y x)) (fun y _=>qva y x)]
    rfl)]
  simp only [qj]
  congr 1
  rw [Bool.eq_iff_iff]
  simp only [List.any_eq_true,decide_eq_true_eq]
  constructor
  · rintro ⟨x,c,y,d,h⟩
    obtain ⟨i,j,k,f,g⟩:=(qlw (l y d).1 (m x c).1).1 h
    exact ⟨i,j,k,⟨x,c,g⟩,⟨y,d,f⟩⟩
  · rintro ⟨i,j,k,⟨x,c,g⟩,⟨y,d,f⟩⟩
    exact ⟨x,c,y,d,(qlw (l y d).1 (m x c).1).2 ⟨i,j,k,f,g⟩⟩
theorem qld {α β : Type} [DecidableEq α] (z v : β) (k b : α) : ∀ es : List (α × β),Zb z b (Ul k v es) = if b = k then v else Zb z b es
  | []=>by simp [Zb,Ul]
  | (a,w)::r=>by
    unfold Ul
    by_cases h : k = a
    · subst h
      rw [qq rfl]
      by_cases c : b = k <;> simp [Zb,c]
    · rw [qp h]
      have d:=qld z v k b r
      by_cases c : b = a
      · subst c
        simp [Zb,Ne.symm h]
      · simp [Zb,c,d]
section
variable (t : Qp) (L : List (List qg))
def cl (i k : Nat) : Prop:=i < k∧∃ p q a b,t.Lines[i]? = some p∧t.Lines[k]? = some q∧L[i]? = some a∧L[k]? = some b∧U7 p q∧qcd a b
open Classical in
noncomputable def row (i m : Nat) : List (Int × Int):=((List.range m).filter fun k=>decide (cl t L i k)).map fun (k : Nat)=>((i : Int),(k : Int))
noncomputable def pairs (n m : Nat) : List (Int × Int):=(List.range m).flatMap fun i=>row t L i n
end
open Classical in
theorem qgn (t : Qp) (L : List (List qg)) (i m : Nat) : row t L i (m + 1) = row t L i m ++ if cl t L i m then [((i : Int),(m : Int))] else []:=by
  unfold row
  rw [List.range_succ,List.filter_append,List.map_append]
  by_cases h : cl t L i m <;> simp [h]
theorem qgl (t : Qp) (L : List (List qg)) (i : Nat) : ∀ m,m≤i + 1→row t L i m = []
  | 0,_=>rfl
  | m + 1,h=>by
    rw [qgn,qgl t L i m q0,qp (fun a=>by have:=a.1;omega)];rfl
theorem qcl (t : Qp) (L : List (List qg)) (n m : Nat) : pairs t L n (m + 1) = pairs t L n m ++ row t L m n:=by
  unfold pairs;rw [List.range_succ,List.flatMap_append];simp
theorem qmt (t : Qp) (L : List (List qg)) (i m : Nat) : (row t L i m).length≤m:=by
  unfold row
  rw [List.length_map]
  exact Nat.le_trans (List.length_filter_le _ _) qe
theorem qgd (t : Qp) (L : List (List qg)) (n : Nat) : ∀ m,(pairs t L n m).length≤m * n
  | 0=>by simp [pairs]
  | m + 1=>by
    rw [qcl,List.length_append,Nat.succ_mul]
    have:=qgd t L n m
    have:=qmt t L m n
    omega
section
variable {t : Qp} {bs : List (List qg)}
noncomputable def Ua (t : Qp) (bs : List (List qg)) : List (Int × Int) × Int:=if (Kd t bs).2≠0 then ([],(Kd t bs).2) else (pairs t (Kd t bs).1 t.Lines.length t.Lines.length,0)
open Classical in
theorem qer (h1 : t.Lines.length≤2000) (h2 : t.Marks.length≤1000000) (h3 : bs.length≤1000000) : q29 t bs = some (Ua t bs):=by
  unfold q29 Ua
  rw [qbp t bs q0 h2 h3,qj]
  by_cases y : (Kd t bs).2 = 0
  rotate_left
  · rw [qq y,show ((Kd t bs).2 != 0) = true by simpa using y];rfl
  rw [qp (by simp [y]),y,show ((0 : Int) != 0) = false from rfl,qy]
  have s : (Kd t bs).1.length = t.Lines.length:=by rw [(qbq y).2.2];simp
  have l:=q8j (t:=t) (bs:=bs)
  generalize Kd t bs = R at y s l ⊢
  have found : ∃ es,loop (q85 R t) (0,[]) = some es∧∀ a b : Nat,Zb false ((a : Int),(b : Int)) es = decide (b < R.1.length∧cl t R.1 a b):=by
    refine J5 (fun k es=>((k : Int),es)) R.1.length (fun k es=>∀ a b : Nat,Zb false ((a : Int),(b : Int)) es = decide (b < k∧cl t R.1 a b)) (fun es=>∀ a b : Nat,Zb false ((a : Int),(b : Int)) es = decide (b < R.1.length∧cl t R.1 a b)) (fun k es m hi=>?_) (fun es hi=>⟨es,by simp only [q85,dnl,qy],hi⟩) (Nat.zero_le _) (fun a b=>by simp [Zb])
    obtain ⟨z,e1,e2⟩:=J5 (f:=q4y ((k : Int),es) t R) (fun i es=>((i : Int),es)) k (fun i es=>∀ a b : Nat,Zb false ((a : Int),(b : Int)) es = decide ((b < k∨(b = k∧a < i))∧cl t R.1 a b)) (fun es=>∀ a b : Nat,Zb false ((a : Int),(b : Int)) es = decide (b < k + 1∧cl t R.1 a b)) (fun i es v hi=>by
      have u : k < t.Lines.length:=by omega
      have w : i < t.Lines.length:=by omega
      left
      have x : cl t R.1 i k↔U7 t.Lines[i] t.Lines[k]∧qcd (R.1[i]'(q0)) R.1[k]:=by
        unfold cl
        constructor
        · rintro ⟨_,p,q,a,b,d,c,g3,g4,g5,g6⟩
          rw [List.getElem?_eq_getElem w] at d
          rw [List.getElem?_eq_getElem u] at c
          rw [List.getElem?_eq_getElem q0] at g3
          rw [List.getElem?_eq_getElem m] at g4
          cases d;cases c;cases g3;cases g4
          exact ⟨g5,g6⟩
        · rintro ⟨g5,g6⟩
          exact ⟨v,_,_,_,_,List.getElem?_eq_getElem w,List.getElem?_eq_getElem u,List.getElem?_eq_getElem q0,List.getElem?_eq_getElem m,g5,g6⟩
      refine ⟨if cl t R.1 i k then Ul ((i : Int),(k : Int)) true es else es,?_,fun a b=>?_⟩
      · have r : i < R.1.length:=by omega
        simp only [q4y,dlt v,Q1,Qu w,Qu u,Qu r,Qu m,qj,qp6,qtg (l _ (Kv r)) (l _ (Kv m)),w64s v (show k≤1000000 by omega)]
        by_cases d : U7 t.Lines[i] t.Lines[k]
        · by_cases c : qcd R.1[i] R.1[k]
          · rw [qq (x.2 ⟨d,c⟩),Q7 d,Q7 c];rfl
          · rw [qp (fun h=>c (x.1 h).2),Q7 d,Q6 c];rfl
        · rw [qp (fun h=>d (x.1 h).1),Q6 d];rfl
      · have ha:=hi a b
        by_cases o : cl t R.1 i k
        · rw [qq o,qld,ha]
          by_cases n : a = i∧b = k
          · obtain ⟨rfl,rfl⟩:=n
            rw [qq rfl,Q7 ⟨.inr ⟨rfl,q0⟩,o⟩]
          · rw [qp (fun h=>n (by simp only [Prod.mk.injEq] at h;omega))]
            rw [decide_eq_decide]
            constructor
            · rintro ⟨d,c⟩;exact ⟨q0,c⟩
            · rintro ⟨d,c⟩;exact ⟨q0,c⟩
        · rw [qp o,ha,decide_eq_decide]
          constructor
          · rintro ⟨d,c⟩;exact ⟨q0,c⟩
          · rintro ⟨d,c⟩
            refine ⟨?_,c⟩
            by_cases n : a = i∧b = k
            · obtain ⟨rfl,rfl⟩:=n;exact absurd c o
            · omega) (fun es hi=>⟨es,by simp only [q4y,dnl,qy],fun a b=>by
        rw [hi,decide_eq_decide]
        constructor
        · rintro ⟨d,c⟩;exact ⟨q0,c⟩
        · rintro ⟨d,c⟩
          have:=c.1
          exact ⟨q0,c⟩⟩) (Nat.zero_le k) (c0:=es) (fun a b=>by
        rw [hi a b,decide_eq_decide]
        constructor
        · rintro ⟨d,c⟩;exact ⟨.inl d,c⟩
        · rintro ⟨d,c⟩;exact ⟨q0,c⟩)
    refine .inl ⟨z,?_,e2⟩
    have e1 : loop (q4y ((k : Int),es) t R) (0,es) = some z:=e1
    simp only [q85,dlt m,Q1,e1,qj,w64s m (show R.1.length≤1000000 by omega)]
  obtain ⟨es,e1,e2⟩:=found
  rw [e1]
  simp only [qj]
  have e3 : ∀ a b : Nat,b < R.1.length→Zb false ((a : Int),(b : Int)) es = decide (cl t R.1 a b):=fun a b hb=>by rw [e2,decide_eq_decide];exact ⟨fun h=>h.2,fun h=>⟨hb,h⟩⟩
  have al : R.1.length * R.1.length≤2000 * 2000:=Nat.mul_le_mul q0 q0
  have g:=Zw (f:=q4z R es) (fun i=>((i : Int),pairs t R.1 R.1.length i)) R.1.length (pairs t R.1 R.1.length R.1.length) (fun i hi=>by
    have aj:=qgd t R.1 R.1.length i
    have ao : i * R.1.length≤R.1.length * R.1.length:=Nat.mul_le_mul_right _ (Nat.le_of_lt hi)
    have j:=Zw (f:=q50 R ((i : Int),pairs t R.1 R.1.length i) es) (fun k=>((k : Int),pairs t R.1 R.1.length i ++ row t R.1 i k)) R.1.length (pairs t R.1 R.1.length i ++ row t R.1 i R.1.length) (fun k m=>by
      have ak:=qmt t R.1 i k
      simp only [q50,dlt m,Q1,e3 i k m,w64s m (show R.1.length≤1000000 by omega)]
      rw [qgn]
      by_cases o : cl t R.1 i k
      · rw [Q7 o,qq o,Q1,Y7 (by simp;omega),List.append_assoc];rfl
      · rw [Q6 o,qp o,List.append_nil];rfl) (by simp only [q50,dnl,qy]) (Nat.zero_le _)
    have j : loop (q50 R ((i : Int),pairs t R.1 R.1.length i) es) (0,pairs t R.1 R.1.length i) = some (pairs t R.1 R.1.length i ++ row t R.1 i R.1.length):=by
      have e0 : (((0 : Nat) : Int),pairs t R.1 R.1.length i ++ row t R.1 i 0) = ((0 : Int),pairs t R.1 R.1.length i):=by simp [row]
      rw [← e0];exact j
    simp only [q4z,dlt hi,Q1,j,qj,w64s hi (show R.1.length≤1000000 by omega),qcl]) (by simp only [q4z,dnl,qy]) (Nat.zero_le _)
  have g : loop (q4z R es) (0,[]) = some (pairs t R.1 R.1.length R.1.length):=g
  rw [g,s]
  rfl
theorem qmx (p : List (Int × Int)) (b : p.length≤1000000) : q6c p p = some true:=by
  unfold q6c
  rw [show ((p.length : Int) != (p.length : Int)) = false by simp,qy]
  rcases Z8 p (fun _=>false) (fun k _=>false) () (q6d p p) (fun k a=>by
    simp only [q6d,dlt a,Q1,Qu a,qj,w64s a b,beq_self_eq_true,Bool.and_true,Bool.not_true,qy]
    rfl) (by simp only [q6d,dnl,qy]) with ⟨a1,a2⟩ | ⟨k,a,hc,_,a2⟩
  · rw [a2];rfl
  · cases hc
theorem qqp (a : t.Lines.length≤12) : (Ua t bs).1.length≤144:=by
  unfold Ua
  split
  · simp
  · have:=qgd t (Kd t bs).1 t.Lines.length t.Lines.length
    have:=Nat.mul_le_mul a a
    simp only;omega
end
end Go.Sh
namespace Go.Sh
open Go Go.Am
theorem qpk {t : Qp} {bs : List (List qg)} (h : Yu t bs) : (Kd t bs).2 = fstE (barB bs) t.Lines:=by
  unfold Kd
  rw [qp (not_not_intro (q3o.2 h))]
  by_cases a : fstE (barB bs) t.Lines = 0
  · rw [qq a,a]
  · rw [qp a]
theorem qpj {t : Qp} {bs : List (List qg)} (h : Yu t bs) : (Kd t bs).2 = 0∨((Kd t bs).1 = []∧((Kd t bs).2 = 4∨(Kd t bs).2 = 16)):=by
  by_cases a : (Kd t bs).2 = 0
  · exact .inl a
  · have e:=qpk h
    have c : (Kd t bs).1 = []:=by
      unfold Kd at a ⊢
      rw [qp (not_not_intro (q3o.2 h))] at a ⊢
      split at a
      · exact absurd rfl a
      · rename_i g;rw [qp g]
    refine .inr ⟨c,?_⟩
    have b : fstE (barB bs) t.Lines = 0∨fstE (barB bs) t.Lines = 4∨fstE (barB bs) t.Lines = 16:=qk7 (P:=fun e=>e = 0∨e = 4∨e = 16) (fun l d=>by
      rcases qph l (Ur bs l) (Yd.1 (qed h d)).1 with g | ⟨_,g | g⟩
      · exact .inl g
      · exact .inr (.inl g)
      · exact .inr (.inr g)) (.inl rfl)
    rw [e] at a ⊢
    rcases b with g | g | g
    · exact absurd g a
    · exact .inl g
    · exact .inr g
theorem q12w {t : Qp} {bs : List (List qg)} (h : Yu t bs) : (Yc t bs).2 = 0∨(Yc t bs).2 = 4∨(Yc t bs).2 = 16:=by
  unfold Yc
  rcases qpj h with g | ⟨_,g⟩
  · rw [qp (not_not_intro g)]
    rcases qca q8k (q8j (t:=t) (bs:=bs)) with k | ⟨k,_⟩
    · rw [k];exact .inr (.inl rfl)
    · exact .inl k
  · rw [qq (by rcases g with g | g <;> rw [g] <;> decide)]
    exact .inr g
theorem qib {t : Qp} {bs : List (List qg)} (h : Yu t bs) {l : Qy} (f : l∈t.Lines) (c : (barB bs l).2 = 0) (x y z : Int) :
    hasB (barB bs l).1 x y z↔∃ p,onL l.From l.To p∧hasB (Ur bs l) (x - p.X) (y - p.Y) (z - p.Z):=by
  obtain ⟨d,a,_⟩:=Yd.1 (qed h f)
  have e:=(qia c d).2.2.2 x y z
  unfold barB
  rw [e,qsc fun b hb=>q13d (a b hb)]
  simp only [qsa]
theorem qh9 {t : Qp} {bs : List (List qg)} (h : (Yc t bs).2 = 0) : Yu t bs∧(Kd t bs).2 = 0∧K0 (Yc t bs).1 = 0∧
    ∀ x y z,hasB (Yc t bs).1 x y z↔∃ l∈t.Lines,∃ p,onL l.From l.To p∧hasB (Ur bs l) (x - p.X) (y - p.Y) (z - p.Z):=by
  unfold Yc at h ⊢
  by_cases c : (Kd t bs).2 = 0
  rotate_left
  · rw [qq c] at h;exact absurd h c
  rw [qp (not_not_intro c)] at h ⊢
  obtain ⟨d,j,f⟩:=qbq c
  rcases qca q8k (q8j (t:=t) (bs:=bs)) with k | ⟨_,m,n⟩
  · rw [k] at h;exact absurd h qx
  refine ⟨d,c,m,fun x y z=>?_⟩
  rw [n]
  constructor
  · rintro (g | ⟨b,hb,g⟩)
    · exact absurd g (q2r x y z)
    · rw [f] at hb
      obtain ⟨l,a,rfl⟩:=List.mem_map.1 hb
      exact ⟨l,a,(qib d a (j l a) x y z).1 g⟩
  · rintro ⟨l,a,g⟩
    refine .inr ⟨(barB bs l).1,?_,(qib d a (j l a) x y z).2 g⟩
    rw [f];exact List.mem_map.2 ⟨l,a,rfl⟩
def Zk (l : Qy) : Qy:={From:=l.To,To:=l.From,Depth:=l.Depth}
theorem qpg (l : Qy) (b : List qg) : barS (Zk l) b = barS l b:=by
  have e : swp l.To l.From = swp l.From l.To:=funext fun b=>q12x _ _ b
  unfold barS Zk
  simp only [e]
theorem qi8 (bs : List (List qg)) (l : Qy) : barB bs (Zk l) = barB bs l:=by
  unfold barB;rw [qpg];rfl
theorem qk6 (bs : List (List qg)) : ∀ l : List Qy,fstE (barB bs) (l.map Zk) = fstE (barB bs) l
  | []=>rfl
  | a::r=>by rw [List.map_cons,fstE,fstE,qi8,qk6 bs r]
theorem qpe {a c : Qa} (h : Ax a c) : Ax c a:=by unfold Ax at *;omega
theorem qt6 {l : Qy} (h : LOk l) : LOk (Zk l):=⟨qpe h.1,h.2.2,h.2.1⟩
theorem qhy (p q : Qy) : U7 (Zk p) (Zk q)↔U7 p q:=by
  unfold U7 Zk
  constructor
  · rintro ⟨a,b,c,d⟩;exact ⟨d,c,b,a⟩
  · rintro ⟨a,b,c,d⟩;exact ⟨d,c,b,a⟩
def Zu (t : Qp) : Qp:={Lines:=t.Lines.map Zk,Marks:=[],End:=({Frame:=({Turn:=0,At:=({X:=0,Y:=0,Z:=0} : Qa)} : Kl),Drawn:=0} : Yi)}
def partT (ls : List Qy) : Qp:={Lines:=ls,Marks:=[],End:=({Frame:=({Turn:=0,At:=({X:=0,Y:=0,Z:=0} : Qa)} : Kl),Drawn:=0} : Yi)}
theorem qhj : FOk ({Turn:=0,At:=({X:=0,Y:=0,Z:=0} : Qa)} : Kl):=by unfold FOk InV;decide
theorem qvf {t : Qp} {bs : List (List qg)} (h : Yu t bs) (hb : bs≠[]) {ls : List Qy} (a : ls.length≤2000) (hs : ∀ l∈ls,LOk l∧0≤l.Depth) : Yu (partT ls) bs:=
  ⟨⟨⟨a,by simp [partT],qhj⟩,fun l h=>(hs l h).1,fun m b=>by simp [partT] at b⟩,h.few,h.brush,fun _=>hb,fun l h=>(hs l h).2⟩
theorem qic {t : Qp} {bs : List (List qg)} (h : Yu t bs) (hb : bs≠[]) : Kd (Zu t) bs = Kd t bs:=by
  have a : Yu (Zu t) bs:=qvf h hb (by simp;exact h.tok.1.1) fun l b=>by
    obtain ⟨k,a,rfl⟩:=List.mem_map.1 b
    exact ⟨qt6 (h.tok.2.1 k a),h.depth k a⟩
  unfold Kd
  rw [qp (not_not_intro (q3o.2 a)),qp (not_not_intro (q3o.2 h))]
  simp only [Zu,qk6,List.map_map]
  have e : ((fun l=>(barB bs l).1) ∘ Zk) = fun l=>(barB bs l).1:=by funext l;simp only [Function.comp,qi8]
  rw [e]
theorem qqn (t : Qp) (L : List (List qg)) (i k : Nat) : cl (Zu t) L i k↔cl t L i k:=by
  unfold cl Zu
  simp only [List.getElem?_map]
  constructor
  · rintro ⟨d,p,q,a,b,f,g,c⟩
    obtain ⟨j,l,rfl⟩:=Option.map_eq_some_iff.1 f
    obtain ⟨m,h,rfl⟩:=Option.map_eq_some_iff.1 g
    exact ⟨d,j,m,a,b,l,h,c.1,c.2.1,(qhy _ _).1 c.2.2.1,c.2.2.2⟩
  · rintro ⟨d,p,q,a,b,f,g,c⟩
    exact ⟨d,Zk p,Zk q,a,b,by rw [f];rfl,by rw [g];rfl,c.1,c.2.1,(qhy _ _).2 c.2.2.1,c.2.2.2⟩
open Classical in
theorem qvb (t : Qp) (L : List (List qg)) (n m : Nat) : pairs (Zu t) L n m = pairs t L n m:=by
  unfold pairs
  congr 1
  funext i
  unfold row
  congr 2
  funext k
  exact decide_eq_decide.2 (qqn t L i k)
theorem qqo {t : Qp} {bs : List (List qg)} (h : Yu t bs) (hb : bs≠[]) : Ua (Zu t) bs = Ua t bs:=by
  unfold Ua
  rw [qic h hb,qvb,show (Zu t).Lines.length = t.Lines.length by simp [Zu]]
end Go.Sh
namespace Go.Sh
open Go Go.Am
instance (a c : Qa) : Decidable (Ax a c):=by unfold Ax;infer_instance
instance (l : Qy) : Decidable (LOk l):=by unfold LOk;infer_instance
def ln (x y u v d : Int) : Qy:={From:=({X:=x,Y:=y,Z:=0} : Qa),To:=({X:=u,Y:=v,Z:=0} : Qa),Depth:=d}
def ub : List qg:=[bx 0 0 0 1 1 1]
theorem qt2 (x y u v : Int) : q1s x y u v = some (ln x y u v 0):=rfl
theorem q13c : q5p = some ub:=rfl
theorem qhc : K0 ub = 0:=q2f qx
theorem qio {ls : List Qy} {bs : List (List qg)} (a : ls.length≤2000∧bs.length≤20∧bs.length≠0) (c : ∀ l∈ls,LOk l∧0≤l.Depth) (d : ∀ b∈bs,K0 b = 0) : Yu (partT ls) bs:=
  ⟨⟨⟨a.1,by simp [partT],qhj⟩,fun l h=>(c l h).1,fun m f=>by simp [partT] at f⟩,a.2.1,d,fun _ e=>a.2.2 (by rw [e];rfl),fun l h=>(c l h).2⟩
theorem qi9 {l : Qy} {b m out : List qg} (e : b.map (swp l.From l.To) = m) (h : m.length≤400∧(∀ x∈m,vB x)∧out.length≤400) (a : isB out) (d : ∀ x y z,hasB m x y z↔hasB out x y z) : barS l b = (out,0):=by
  unfold barS
  rw [qq (fun x c=>h.2.1 _ (e ▸ List.mem_map_of_mem c)),e]
  exact qtj h a d
theorem qid {t : Qp} {bs : List (List qg)} {g : Qy→List qg} (h : Yu t bs) (b : ∀ l∈t.Lines,barB bs l = (g l,0)) : Kd t bs = (t.Lines.map g,0):=by
  have e : fstE (barB bs) t.Lines = 0:=qf9.2 fun l a=>by rw [b l a]
  unfold Kd
  rw [qp (not_not_intro (q3o.2 h)),qq e]
  congr 1
  exact List.map_congr_left fun l a=>by rw [b l a]
theorem q12r {t : Qp} {bs : List (List qg)} {L : List (List qg)} (h : Kd t bs = (L,0)) : Yc t bs = Ya [] L:=by
  unfold Yc;rw [h];rfl
theorem qfl {o b q : List qg} {r : List (List qg)} (h : jB 2 o b = (q,0)) : Ya o (b::r) = Ya q r:=by
  rw [Ya,h];rfl
theorem qpi {l : Qy} {b : List qg} (h : LOk l) (hb : K0 b = 0) : barT l b = barS l b:=by
  have : TOk (oneT l):=⟨⟨by simp [oneT],by simp [oneT],qhj⟩,fun k a=>by simp [oneT] at a;subst a;exact h,fun m c=>by simp [oneT] at c⟩
  unfold barT
  rw [qp (not_not_intro this),qp (not_not_intro hb)]
theorem qsb (b : qg) (x y z : Int) : hasB [b] x y z↔inB b x y z:=by simp [qfc,q2r]
open Classical in
theorem qvc {t : Qp} {L : List (List qg)} (h : cl t L 0 1) : pairs t L 2 2 = [(0,1)]:=by
  have e : pairs t L 2 2 = row t L 0 2 ++ row t L 1 2:=by rw [qcl,qcl];rfl
  rw [e,qgl t L 1 2 q0,qgn,qgl t L 0 1 q0,qq h];rfl
theorem qp3 : q90 = some true:=by
  have b1 : barT (ln 0 0 3 0 0) ub = ([bx 0 0 0 4 1 1],0):=by
    rw [qpi qx qhc]
    exact qi9 (m:=[bx 0 0 0 4 1 1]) rfl qx qx fun x y z=>Iff.rfl
  let g : Qy→List qg:=fun l=>ub.map (swp l.From l.To)
  have c : ∀ ls : List Qy,(∀ l∈ls,Ur [ub] l = ub∧((ub.map (swp l.From l.To)).length≤400∧(∀ x∈ub.map (swp l.From l.To),vB x)∧(ub.map (swp l.From l.To)).length≤400)∧isB (ub.map (swp l.From l.To)))→∀ l∈ls,barB [ub] l = (g l,0):=fun ls h l j=>by
    obtain ⟨f,q,d⟩:=h l j
    unfold barB;rw [f]
    exact qi9 (m:=ub.map (swp l.From l.To)) rfl q d fun x y z=>Iff.rfl
  have k : Yc (partT [ln 0 0 1 0 0,ln 1 0 2 0 0,ln 2 0 2 1 0]) [ub] = ([bx 0 0 0 2 1 1,bx 2 0 0 3 2 1],0):=by
    have hb:=qid (qio (bs:=[ub]) (ls:=[ln 0 0 1 0 0,ln 1 0 2 0 0,ln 2 0 2 1 0]) qx qx (by simp [qhc])) (c [ln 0 0 1 0 0,ln 1 0 2 0 0,ln 2 0 2 1 0] qx)
    rw [q12r hb]
    have e : (partT [ln 0 0 1 0 0,ln 1 0 2 0 0,ln 2 0 2 1 0]).Lines.map g = [[bx 0 0 0 2 1 1],[bx 1 0 0 3 1 1],[bx 2 0 0 3 2 1]]:=rfl
    have s : jB 2 [] [bx 0 0 0 2 1 1] = ([bx 0 0 0 2 1 1],0):=qfj q8k (q2f qx) (isB.can qx) qx fun x y z=>by rw [q3w];simp [q2r]
    have r : jB 2 [bx 0 0 0 2 1 1] [bx 1 0 0 3 1 1] = ([bx 0 0 0 3 1 1],0):=qfj (q2f qx) (q2f qx) (isB.can qx) qx fun x y z=>by
      rw [q3w];simp only [qsb,inB,bx];omega
    have o : jB 2 [bx 0 0 0 3 1 1] [bx 2 0 0 3 2 1] = ([bx 0 0 0 2 1 1,bx 2 0 0 3 2 1],0):=qfj (q2f qx) (q2f qx) (isB.can qx) qx fun x y z=>by
      rw [q3w];simp only [qfc,q2r,or_false,inB,bx];omega
    rw [e,qfl s,qfl r,qfl o];rfl
  have n : volume [bx 0 0 0 2 1 1,bx 2 0 0 3 2 1] = (4,0):=by unfold volume;rw [qp (by simp [q2f (l:=[bx 0 0 0 2 1 1,bx 2 0 0 3 2 1]) qx])];rfl
  have c1 : Ua (partT [ln 0 0 2 0 0,ln 1 (-1) 1 1 0]) [ub] = ([(0,1)],0):=by
    have hb:=qid (qio (bs:=[ub]) (ls:=[ln 0 0 2 0 0,ln 1 (-1) 1 1 0]) qx qx (by simp [qhc])) (c [ln 0 0 2 0 0,ln 1 (-1) 1 1 0] qx)
    have e : (partT [ln 0 0 2 0 0,ln 1 (-1) 1 1 0]).Lines.map g = [[bx 0 0 0 3 1 1],[bx 1 (-1) 0 2 2 1]]:=rfl
    rw [e] at hb
    unfold Ua
    rw [hb]
    have p : cl (partT [ln 0 0 2 0 0,ln 1 (-1) 1 1 0]) [[bx 0 0 0 3 1 1],[bx 1 (-1) 0 2 2 1]] 0 1:=
      ⟨qx,ln 0 0 2 0 0,ln 1 (-1) 1 1 0,_,_,rfl,rfl,rfl,rfl,by unfold U7 ln;simp,1,0,0,qx,qx⟩
    rw [qp qx]
    exact Prod.ext (qvc p) rfl
  have a : q19 ({Lines:=[ln 0 0 1 0 0,ln 1 0 2 0 0,ln 2 0 2 1 0],Marks:=[],End:=({Frame:=({Turn:=0,At:=({X:=0,Y:=0,Z:=0} : Qa)} : Kl),Drawn:=0} : Yi)} : Qp) [ub] = _:=qh8 (partT [ln 0 0 1 0 0,ln 1 0 2 0 0,ln 2 0 2 1 0]) [ub] qx qx qx
  have b : q29 ({Lines:=[ln 0 0 2 0 0,ln 1 (-1) 1 1 0],Marks:=[],End:=({Frame:=({Turn:=0,At:=({X:=0,Y:=0,Z:=0} : Qa)} : Kl),Drawn:=0} : Yi)} : Qp) [ub] = _:=qer (t:=partT [ln 0 0 2 0 0,ln 1 (-1) 1 1 0]) (bs:=[ub]) qx qx qx
  unfold q90
  simp only [qt2,q13c,qj,qx9,b1,a,k,q11p,n,b,c1]
  rw [show ({Lo:=({X:=0,Y:=0,Z:=0} : Qa),Hi:=({X:=4,Y:=1,Z:=1} : Qa)} : qg) = bx 0 0 0 4 1 1 from rfl,sameBox _ _ qx,qmx _ qx]
  simp
structure q8f (t : Qp) (bs : List (List qg)) : Prop where
  small : Small t bs
  tok : TOk t
  some' : 1≤bs.length∧bs.length≤5
  depth : ∀ l∈t.Lines,0≤l.Depth
  near : ∀ l∈t.Lines,InV l.From (-1000)∧max (max l.From.X l.From.Y) l.From.Z≤1000
  brush : ∀ b∈bs,K0 b = 0
theorem q8f.ne {t : Qp} {bs : List (List qg)} (h : q8f t bs) : bs≠[]:=fun e=>by have:=h.some'.1;rw [e] at this;simp at this
theorem q8f.ok {t : Qp} {bs : List (List qg)} (h : q8f t bs) : Yu t bs:=⟨h.tok,by have:=h.some'.2;omega,h.brush,fun _=>h.ne,h.depth⟩
theorem qrq (t : Qp) (bs : List (List qg)) : q5l t bs = some false∨(q5l t bs = some true∧q8f t bs):=by
  unfold q5l
  rcases qs8 t bs with h | ⟨h,hs⟩
  · rw [h];exact .inl rfl
  rw [h]
  have p:=hs.lines
  have r:=hs.marks
  have o:=hs.many
  simp only [qj,qy,qw3 t q0 q0]
  by_cases g : TOk t
  rotate_left
  · rw [qp g];exact .inl rfl
  rw [qq g,show ((0 : Int) != 0) = false from rfl]
  simp only [qj,qy]
  by_cases n : bs.length < 1
  · rw [Q7 (by omega : (bs.length : Int) < 1)];exact .inl rfl
  by_cases q : bs.length > 5
  · rw [Q6 (by omega : ¬ (bs.length : Int) < 1),Q7 (by omega : (bs.length : Int) > 5)];exact .inl rfl
  rw [Q6 (by omega : ¬ (bs.length : Int) < 1),Q6 (by omega : ¬ (bs.length : Int) > 5)]
  simp only [qj,qy]
  rcases Z8 t.Lines (fun l=>!decide (0≤l.Depth∧InV l.From (-1000)∧max (max l.From.X l.From.Y) l.From.Z≤1000)) (fun k _=>false) () (q5m t) (fun k a=>by
    simp only [q5m,dlt a,Q1,Qu a,qj,w64s a (show t.Lines.length≤1000000 by omega),qbg]
    generalize t.Lines[k] = l
    by_cases f : l.Depth < 0
    · have e : decide (0≤l.Depth∧InV l.From (-1000)∧max (max l.From.X l.From.Y) l.From.Z≤1000) = false:=Q6 fun h=>by omega
      rw [e,Q7 f];rfl
    by_cases d : InV l.From (-1000)
    · by_cases m : max (max l.From.X l.From.Y) l.From.Z > 1000
      · have e : decide (0≤l.Depth∧InV l.From (-1000)∧max (max l.From.X l.From.Y) l.From.Z≤1000) = false:=Q6 fun h=>by omega
        rw [e,Q6 f,Q7 d,Q7 m];rfl
      · have e : decide (0≤l.Depth∧InV l.From (-1000)∧max (max l.From.X l.From.Y) l.From.Z≤1000) = true:=Q7 ⟨q0,d,q0⟩
        rw [e,Q6 f,Q7 d,Q6 m];rfl
    · have e : decide (0≤l.Depth∧InV l.From (-1000)∧max (max l.From.X l.From.Y) l.From.Z≤1000) = false:=Q6 fun h=>d h.2.1
      rw [e,Q6 f,Q6 d];rfl) (by simp only [q5m,dnl,qy]) with ⟨a1,a2⟩ | ⟨k,a,hc,_,a2⟩
  rotate_left
  · rw [a2];exact .inl rfl
  rw [a2]
  simp only [qj]
  rcases Z8 bs (fun b=>decide (K0 b≠0)) (fun k _=>false) () (q5n bs) (fun k a=>by
    simp only [q5n,dlt a,Q1,Qu a,qj,w64s a (show bs.length≤1000000 by omega),qw4]
    by_cases h : K0 bs[k] = 0 <;> simp [qeb,h]) (by simp only [q5n,dnl,qy]) with ⟨b1,b2⟩ | ⟨k,a,hc,_,b2⟩
  rotate_left
  · rw [b2];exact .inl rfl
  rw [b2]
  have j : ∀ l∈t.Lines,0≤l.Depth∧InV l.From (-1000)∧max (max l.From.X l.From.Y) l.From.Z≤1000:=fun l c=>by simpa using a1 l c
  exact .inr ⟨rfl,hs,g,q0,fun l c=>(j l c).1,fun l c=>(j l c).2,fun b hb=>by simpa using b1 b hb⟩
end Go.Sh
namespace Go.Sh
open Go Go.Am
theorem qpf (t : Qp) (b : t.Lines.length≤1000000) : loop (q3y t) (0,[]) = some (t.Lines.map Zk):=by
  have key:=Zw (f:=q3y t) (fun k=>((k : Int),(t.Lines.take k).map Zk)) t.Lines.length (t.Lines.map Zk) (fun k a=>by
    simp only [q3y,dlt a,Q1,Qu a,qj,w64s a b]
    rw [Y7 (by simp;omega),List.take_succ_eq_append_getElem a,List.map_append];rfl) (by
    simp only [q3y,dnl,qy,List.take_length]) (Nat.zero_le _)
  exact key
theorem q149 (t : Qp) (bs : List (List qg)) (at_ : Int) : qcb t bs at_ = some true:=by
  unfold qcb
  rw [qp3]
  simp only [qj]
  rcases qrq t bs with h | ⟨h,c⟩
  · rw [h];rfl
  rw [h]
  simp only [qj,Bool.not_true,qy]
  by_cases r : at_ < 0
  · rw [Q7 r];rfl
  by_cases u : at_ > (t.Lines.length : Int)
  · rw [Q6 r,Q7 u];rfl
  rw [Q6 r,Q6 u]
  obtain ⟨a,rfl⟩:=Int.eq_ofNat_of_zero_le (by omega : 0≤at_)
  have v:=c.small.lines
  have h2:=c.small.marks
  have h3:=c.small.many
  have e1 : q28 ({Lines:=t.Lines.map Zk,Marks:=[],End:=({Frame:=({Turn:=0,At:=({X:=0,Y:=0,Z:=0} : Qa)} : Kl),Drawn:=0} : Yi)} : Qp) bs = some (Kd t bs):=by
    rw [← qic c.ok c.ne];exact qbp (Zu t) bs (by simp [Zu];omega) (by simp [Zu]) q0
  have e2 : q29 ({Lines:=t.Lines.map Zk,Marks:=[],End:=({Frame:=({Turn:=0,At:=({X:=0,Y:=0,Z:=0} : Qa)} : Kl),Drawn:=0} : Yi)} : Qp) bs = some (Ua t bs):=by
    rw [← qqo c.ok c.ne];exact qer (t:=Zu t) (bs:=bs) (by simp [Zu];omega) (by simp [Zu]) q0
  have s : ∀ ls : List Qy,ls.length≤12→q19 ({Lines:=ls,Marks:=[],End:=({Frame:=({Turn:=0,At:=({X:=0,Y:=0,Z:=0} : Qa)} : Kl),Drawn:=0} : Yi)} : Qp) bs = some (Yc (partT ls) bs):=fun ls d=>qh8 (partT ls) bs (by simp only [partT];omega) (by simp [partT]) q0
  have w : slc t.Lines 0 (a : Int) = some (t.Lines.take a):=by unfold slc;rw [qq q0];simp
  have s2 : slc t.Lines (a : Int) (t.Lines.length : Int) = some (t.Lines.drop a):=by unfold slc;rw [qq q0];simp [List.take_of_length_le]
  have ad:=qie t bs
  have ag:=qqp (t:=t) (bs:=bs) v
  simp only [qy,qj,qpf t q0,qbp t bs q0 q0 q0,qer (t:=t) (bs:=bs) q0 q0 q0,e1,e2,bne_self_eq_false,
    qxa _ (show (Kd t bs).1.length≤1000000 by omega) (fun b hb=>by have:=(Yd.1 (q8j b hb)).1;omega),qmx _ (show (Ua t bs).1.length≤1000000 by omega),Bool.not_true,
    qh8 t bs q0 q0 q0,w,s2,s _ (show (t.Lines.take a).length≤12 by simp;omega),s _ (show (t.Lines.drop a).length≤12 by simp;omega)]
  have o : ∀ X : Option Bool,((cond true ((cond ((Yc t bs).2 == 0) (some true) (some ((Yc t bs).2 == 16))).bind fun m=>(cond m (some true) (some ((Yc t bs).2 == 4))).bind fun k=>some k) (some false)).bind fun f=>some f) = some true:=by
    intro _
    rcases q12w c.ok with g | g | g <;> rw [g] <;> rfl
  by_cases j : (Yc t bs).2 = 0
  rotate_left
  · rw [show ((Yc t bs).2 != 0) = true by simpa using j]
    exact o none
  by_cases n : (Yc (partT (t.Lines.take a)) bs).2 = 0
  rotate_left
  · rw [show ((Yc (partT (t.Lines.take a)) bs).2 != 0) = true by simpa using n,j];rfl
  by_cases p : (Yc (partT (t.Lines.drop a)) bs).2 = 0
  rotate_left
  · rw [show ((Yc (partT (t.Lines.drop a)) bs).2 != 0) = true by simpa using p,j,n];rfl
  rw [j,n,p]
  simp only [bne_self_eq_false,qy,Q1,qj,qnm]
  obtain ⟨_,_,c1,p1⟩:=qh9 j
  obtain ⟨_,_,c2,p2⟩:=qh9 n
  obtain ⟨_,_,c3,p3⟩:=qh9 p
  rcases qfk c2 c3 with hj | ⟨j1,j2,j3⟩
  · rw [hj];rfl
  rw [j1]
  have e : (Yc t bs).1 = (jB 2 (Yc (partT (t.Lines.take a)) bs).1 (Yc (partT (t.Lines.drop a)) bs).1).1:=by
    refine qef (Yd.1 c1).2.2 (Yd.1 j2).2.2 fun x y z=>?_
    rw [j3,p1,p2,p3]
    have q : ∀ l,l∈t.Lines↔l∈t.Lines.take a∨l∈t.Lines.drop a:=fun l=>by rw [← List.mem_append,List.take_append_drop]
    constructor
    · rintro ⟨l,d,h⟩
      rcases (q l).1 d with g | g
      · exact .inl ⟨l,g,h⟩
      · exact .inr ⟨l,g,h⟩
    · rintro (⟨l,d,h⟩ | ⟨l,d,h⟩)
      · exact ⟨l,(q l).2 (.inl d),h⟩
      · exact ⟨l,(q l).2 (.inr d),h⟩
  rw [← e,sameBox _ _ (show (Yc t bs).1.length≤1000000 by have:=(Yd.1 c1).1;omega)]
  simp
end Go.Sh
