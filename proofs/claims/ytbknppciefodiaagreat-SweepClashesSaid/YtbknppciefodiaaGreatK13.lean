/- Sw6 Sw7 Sw8 Sw9 Sw10 -/
import Derived.Test.YtbknppciefodiaaGreatK12
namespace Go.Sh
open Go Go.Am
theorem qoy {l : Qx} {b : List qg} (h : (barS l b).2 = 0) (k : b.length≤400) : (∀ x∈b,vB (swp l.From l.To x))∧(barS l b).1 = mrgB 2 (b.map (swp l.From l.To)) []∧Qr (barS l b).1 = 0∧∀ x y z,hasB (barS l b).1 x y z↔hasB (b.map (swp l.From l.To)) x y z:=by
  unfold barS at h ⊢
  by_cases a : ∀ x∈b,vB (swp l.From l.To x)
  · rw [if_pos a] at h ⊢
    have f : ∀ y∈b.map (swp l.From l.To),vB y:=by intro y g;obtain ⟨x,j,rfl⟩:=List.mem_map.1 g;exact a x j
    unfold mkB at h ⊢
    rw [if_neg (by simp;omega),if_pos f] at h ⊢
    by_cases c : 400 < (mrgB 2 (b.map (swp l.From l.To)) []).length
    · rw [if_pos c] at h;simp at h
    · rw [if_neg c]
      have d:=q5e 2 (p:=b.map (swp l.From l.To)) (q:=[]) (by simp;omega)
      exact ⟨a,rfl,Ya.2 ⟨by simpa using c,d.vB (InB.mrg (by simp;omega) (qgs f) .nil),d⟩,fun x y z=>qjq (by simp;omega) x y z⟩
  · rw [if_neg a] at h;simp at h
theorem qox (l : Qx) (b : List qg) (h : b.length≤400) : (barS l b).2 = 0∨((barS l b).1 = []∧((barS l b).2 = 4∨(barS l b).2 = 16)):=by
  unfold barS
  by_cases a : ∀ x∈b,vB (swp l.From l.To x)
  · have g : ∀ y∈b.map (swp l.From l.To),vB y:=by intro y d;obtain ⟨x,f,rfl⟩:=List.mem_map.1 d;exact a x f
    rw [if_pos a]
    unfold mkB
    rw [if_neg (by simp;omega),if_pos g]
    by_cases c : 400 < (mrgB 2 (b.map (swp l.From l.To)) []).length
    · rw [if_pos c];exact .inr ⟨rfl,.inl rfl⟩
    · rw [if_neg c];exact .inl rfl
  · rw [if_neg a];exact .inr ⟨rfl,.inr rfl⟩
theorem qhq {t : Qn} {bs : List (List qg)} (h : Zj t bs) {l : Qx} (a : l∈t.Lines) : Qr (q1w bs l) = 0:=h.brush _ (qhp h a).2
theorem qbd {t : Qn} {bs : List (List qg)} (h : (K5 t bs).2 = 0) : Zj t bs∧(∀ l∈t.Lines,(barB bs l).2 = 0)∧(K5 t bs).1 = t.Lines.map fun l=>(barB bs l).1:=by
  unfold K5 at h ⊢
  by_cases a : chkS t bs = 0
  · rw [if_neg (not_not_intro a)] at h ⊢
    by_cases b : fstE (barB bs) t.Lines = 0
    · rw [if_pos b]
      exact ⟨q88.1 a,qes.1 b,rfl⟩
    · rw [if_neg b] at h;exact absurd h b
  · rw [if_pos a] at h;exact absurd h a
theorem qdr {t : Qn} {bs : List (List qg)} : ∀ b∈(K5 t bs).1,Qr b = 0:=by
  by_cases h : (K5 t bs).2 = 0
  · obtain ⟨j,f,g⟩:=qbd h
    rw [g]
    intro b hb
    obtain ⟨l,a,rfl⟩:=List.mem_map.1 hb
    exact (qoy (f l a) (Ya.1 (qhq j a)).1).2.2.1
  · have : (K5 t bs).1 = []:=by
      unfold K5 at h ⊢
      by_cases c : chkS t bs = 0
      · rw [if_neg (not_not_intro c)] at h ⊢
        by_cases d : fstE (barB bs) t.Lines = 0
        · rw [if_pos d] at h;exact absurd rfl h
        · rw [if_neg d]
      · rw [if_pos c]
    rw [this];intro b hb;cases hb
def q1d (l : Qx) : Prop:=(InV l.From (-2000000)∧InV l.To (-2000000))∧(max (max (max (max (max (l.From.X - l.To.X) (l.To.X - l.From.X)) (l.From.Y - l.To.Y)) (l.To.Y - l.From.Y)) (l.From.Z - l.To.Z)) (l.To.Z - l.From.Z))≤30
instance (l : Qx) : Decidable (q1d l):=by unfold q1d;infer_instance
theorem qrp (t : Qn) (bs : List (List qg)) : q5t t bs = some true∨(q5t t bs = some false∧Small t bs):=by
  unfold q5t
  by_cases p : 12 < t.Lines.length
  · rw [decide_eq_true (by omega : (t.Lines.length : Int) > 12)];exact .inl rfl
  by_cases n : 50 < t.Marks.length
  · rw [decide_eq_false (by omega : ¬ (t.Lines.length : Int) > 12),decide_eq_true (by omega : (t.Marks.length : Int) > 50)];exact .inl rfl
  by_cases o : 25 < bs.length
  · rw [decide_eq_false (by omega : ¬ (t.Lines.length : Int) > 12),decide_eq_false (by omega : ¬ (t.Marks.length : Int) > 50),decide_eq_true (by omega : (bs.length : Int) > 25)];exact .inl rfl
  rw [decide_eq_false (by omega : ¬ (t.Lines.length : Int) > 12),decide_eq_false (by omega : ¬ (t.Marks.length : Int) > 50),decide_eq_false (by omega : ¬ (bs.length : Int) > 25)]
  simp only [cond_false,Option.bind_some]
  rcases Yy t.Lines (fun l=>!decide (q1d l)) (fun k _=>true) () (q5u t) (fun k a=>by
    simp only [q5u,dlt a,cond_true,Qi a,Option.bind_some,w64s a (show t.Lines.length≤1000000 by omega),qb4]
    generalize t.Lines[k] = l
    by_cases c : InV l.From (-2000000)
    · by_cases d : InV l.To (-2000000)
      · have m:=c;have g:=d
        unfold InV at m g
        rw [Qe q0,Qe q0,Qe q0,Qe q0,Qe q0,Qe q0]
        have e : decide (max (max (max (max (max (l.From.X - l.To.X) (l.To.X - l.From.X)) (l.From.Y - l.To.Y)) (l.To.Y - l.From.Y)) (l.From.Z - l.To.Z)) (l.To.Z - l.From.Z) > 30) = !decide (q1d l):=by
          rw [Bool.eq_iff_iff];simp only [decide_eq_true_eq,Bool.not_eq_true',decide_eq_false_iff_not,q1d,c,d,true_and,and_true];omega
        rw [e,decide_eq_true c,decide_eq_true d]
        cases decide (q1d l) <;> rfl
      · have e : decide (q1d l) = false:=decide_eq_false fun h=>d h.1.2
        rw [e,decide_eq_true c,decide_eq_false d];rfl
    · have e : decide (q1d l) = false:=decide_eq_false fun h=>c h.1.1
      rw [e,decide_eq_false c];rfl) (by simp only [q5u,dnl,cond_false]) with ⟨a1,a2⟩ | ⟨k,a,hc,_,a2⟩
  rotate_left
  · rw [a2];exact .inl rfl
  rw [a2]
  simp only [Option.bind_some]
  rcases Yy bs (fun b=>decide (5 < b.length)) (fun k _=>true) () (q5v bs) (fun k a=>by
    simp only [q5v,dlt a,cond_true,Qi a,Option.bind_some,w64s a (show bs.length≤1000000 by omega)]
    by_cases h : 5 < bs[k].length
    · rw [decide_eq_true (by omega : (bs[k].length : Int) > 5)];simp [h]
    · rw [decide_eq_false (by omega : ¬ (bs[k].length : Int) > 5)];simp [h]) (by simp only [q5v,dnl,cond_false]) with ⟨b1,b2⟩ | ⟨k,a,hc,_,b2⟩
  rotate_left
  · rw [b2];exact .inl rfl
  rw [b2]
  refine .inr ⟨rfl,q0,q0,q0,fun l j=>?_,fun b hb=>by simpa using b1 b hb⟩
  have f : q1d l:=by simpa using a1 l j
  refine ⟨f.1,?_⟩
  have:=qt2 l.From l.To
  have:=f.2
  omega
def oneT (l : Qx) : Qn:=({Lines:=[l],Marks:=[],End:=({Frame:=({Turn:=0,At:=({X:=0,Y:=0,Z:=0} : Qb)} : Y5),Drawn:=0} : Jj)} : Qn)
noncomputable def barT (l : Qx) (b : List qg) : List qg × Int:=if ¬ TOk (oneT l) then ([],8) else if Qr b≠0 then ([],Qr b) else barS l b
theorem qwn (l : Qx) (b : List qg) : qar l b = some (barT l b):=by
  obtain ⟨n,g⟩:=qo2 (oneT l) (by simp [oneT]) (by simp [oneT])
  unfold qar barT
  rw [show q4n ({Lines:=[l],Marks:=[],End:=({Frame:=({Turn:=0,At:=({X:=0,Y:=0,Z:=0} : Qb)} : Y5),Drawn:=0} : Jj)} : Qn) = _ from g]
  simp only [Option.bind_some]
  by_cases a : TOk (oneT l)
  · rw [if_pos a,if_neg (not_not_intro a),show ((0 : Int) != 0) = false from rfl,cond_false]
    rw [qcz,Option.bind_some]
    by_cases c : Qr b = 0
    · have d : LOk l:=a.2.1 l (by simp [oneT])
      obtain ⟨hb,f,_⟩:=Ya.1 c
      rw [c,if_neg qs,show ((0 : Int) != 0) = false from rfl,cond_false,qnu d hb f];rfl
    · rw [if_pos c,show (Qr b != 0) = true by simpa using c];rfl
  · rw [if_neg a,if_pos a];rfl
end Go.Sh
namespace Go.Sh
open Go Go.Am
noncomputable def Kx : List qg→List (List qg)→List qg × Int
  | o,[]=>(o,0)
  | o,b::r=>if (jB 2 o b).2≠0 then ([],(jB 2 o b).2) else Kx (jB 2 o b).1 r
theorem qk1 {p q : List qg} (hp : Qr p = 0) (d : Qr q = 0) : (jB 2 p q = ([],4))∨((jB 2 p q).2 = 0∧Qr (jB 2 p q).1 = 0∧∀ x y z,hasB (jB 2 p q).1 x y z↔hasB p x y z∨hasB q x y z):=by
  rcases qk0 2 hp d with h | ⟨c,a,b⟩
  · exact .inl h
  · rw [c];exact .inr ⟨rfl,a,fun x y z=>by rw [b,q3c]⟩
theorem qk2 : ∀ {l : List (List qg)} {o : List qg},Qr o = 0→(∀ b∈l,Qr b = 0)→Kx o l = ([],4)∨((Kx o l).2 = 0∧Qr (Kx o l).1 = 0∧∀ x y z,hasB (Kx o l).1 x y z↔hasB o x y z∨∃ b∈l,hasB b x y z)
  | [],o,ho,_=>.inr ⟨rfl,ho,fun x y z=>by simp [Kx]⟩
  | b::r,o,ho,hb=>by
    rcases qk1 ho (hb b qe) with h | ⟨m,j,k⟩
    · left;unfold Kx;rw [h];rfl
    · have e : Kx o (b::r) = Kx (jB 2 o b).1 r:=by rw [Kx,if_neg (by simp [m])]
      rw [e]
      rcases qk2 (l:=r) j (fun c a=>hb c (by simp [a])) with g | ⟨n,f,d⟩
      · exact .inl g
      · refine .inr ⟨n,f,fun x y z=>?_⟩
        rw [d,k]
        constructor
        · rintro ((h | h) | ⟨c,a,h⟩)
          · exact .inl h
          · exact .inr ⟨b,qe,h⟩
          · exact .inr ⟨c,by simp [a],h⟩
        · rintro (h | ⟨c,a,h⟩)
          · exact .inl (.inl h)
          · rcases List.mem_cons.1 a with rfl | a
            · exact .inl (.inr h)
            · exact .inr ⟨c,a,h⟩
theorem qs3 {src : List (List qg)} (d : ∀ b∈src,Qr b = 0) {f : List qg × Int→Option ((List qg × Int) ⊕ ((List qg) ⊕ (List qg × Int)))}
    (hs : ∀ k (m : k < src.length) (o : List qg),Qr o = 0→f (o,(k : Int)) = some (if (jB 2 o src[k]).2≠0 then .inr (.inr ([],(jB 2 o src[k]).2)) else .inl ((jB 2 o src[k]).1,((k + 1 : Nat) : Int))))
    (hd : ∀ o,f (o,(src.length : Int)) = some (.inr (.inl o))) : loop f ([],0) = some (if (Kx [] src).2 = 0 then .inl (Kx [] src).1 else .inr ([],(Kx [] src).2)):=by
  have key : ∀ (r pre : List (List qg)) (o : List qg),src = pre ++ r→Qr o = 0→loop f (o,(pre.length : Int)) = some (if (Kx o r).2 = 0 then .inl (Kx o r).1 else .inr ([],(Kx o r).2)):=by
    intro r
    induction r with
    | nil=>
      intro pre o h _
      rw [List.append_nil] at h;subst h
      rw [K7 (hd _)];rfl
    | cons a r ih=>
      intro pre o h l
      have m : pre.length < src.length:=by rw [h];simp
      have q : src[pre.length] = a:=by simp [h]
      have c:=hs pre.length m o l
      rw [q] at c
      have g : Qr a = 0:=d a (by rw [h];simp)
      rcases qk1 l g with j | ⟨n,p,_⟩
      · rw [j,if_pos qs] at c
        have e : Kx o (a::r) = ([],4):=by unfold Kx;rw [j];rfl
        rw [K7 c,e];rfl
      · rw [if_neg (by simp [n])] at c
        have e : Kx o (a::r) = Kx (jB 2 o a).1 r:=by rw [Kx,if_neg (by simp [n])]
        rw [Kr c,e]
        have:=ih (pre ++ [a]) (jB 2 o a).1 (by rw [h];simp) p
        simpa using this
  exact key src [] [] rfl qe3
noncomputable def qaq (t : Qn) (bs : List (List qg)) : List qg × Int:=if (K5 t bs).2≠0 then ([],(K5 t bs).2) else Kx [] (K5 t bs).1
theorem qp0 (t : Qn) (bs : List (List qg)) : (K5 t bs).1.length≤t.Lines.length:=by
  by_cases a : (K5 t bs).2 = 0
  · rw [(qbd a).2.2];simp
  · have : (K5 t bs).1 = []:=by
      unfold K5 at a ⊢
      split
      · rfl
      · rename_i b
        rw [if_neg b] at a
        split at a
        · exact absurd rfl a
        · rename_i c;rw [if_neg c]
    rw [this];simp
theorem q12f {R : List (List qg) × Int} (c : R.1.length≤1000000) (k : Nat) (b : k < R.1.length) (o : List qg) : q4k R (o,(k : Int)) = some (if (jB 2 o R.1[k]).2≠0 then .inr (.inr ([],(jB 2 o R.1[k]).2)) else .inl ((jB 2 o R.1[k]).1,((k + 1 : Nat) : Int))):=by
  simp only [q4k,dlt b,cond_true,Qi b,Option.bind_some,q115,w64s b c]
  generalize jB 2 o R.1[k] = q
  by_cases a : q.2 = 0
  · rw [if_neg (not_not_intro a),a];rfl
  · rw [if_pos a,show (q.2 != 0) = true by simpa using a,cond_true]
theorem q12a (t : Qn) (bs : List (List qg)) (h : t.Lines.length≤1000000) (j : t.Marks.length≤1000000) (l : bs.length≤1000000) : q7s t bs = some (qaq t bs):=by
  unfold q7s qaq
  have d:=qp0 t bs
  have c:=qdr (t:=t) (bs:=bs)
  rw [qds t bs h j l,Option.bind_some]
  generalize K5 t bs = R at d c ⊢
  by_cases b : R.2 = 0
  · rw [if_neg (not_not_intro b),b,show ((0 : Int) != 0) = false from rfl,cond_false]
    rw [qs3 c (f:=q4k R) (fun k m o _=>q12f (Nat.le_trans d h) k m o) (fun o=>by simp only [q4k,dnl,cond_false])]
    by_cases a : (Kx [] R.1).2 = 0
    · rw [if_pos a];simp only [Option.bind_some];exact congrArg some (Prod.ext rfl a.symm)
    · rw [if_neg a]
      rcases qk2 qe3 c with g | ⟨n,_⟩
      · rw [g];rfl
      · exact absurd n a
  · rw [if_pos b,show (R.2 != 0) = true by simpa using b,cond_true]
def Zm (p q : Qx) : Prop:=p.From≠q.From∧p.From≠q.To∧p.To≠q.From∧p.To≠q.To
instance (p q : Qx) : Decidable (Zm p q):=by unfold Zm;infer_instance
theorem qoa (p q : Qb) : ((p.X == q.X) && ((p.Y == q.Y) && ((p.Z == q.Z) && true))) = decide (p = q):=by
  rw [Bool.eq_iff_iff];simp [q12v]
theorem qop (p q : Qx) : qas p q = some (decide (Zm p q)):=by
  unfold qas Zm
  simp only [qoa]
  by_cases a : p.From = q.From <;> by_cases c : p.From = q.To <;> by_cases d : p.To = q.From <;> by_cases b : p.To = q.To <;> simp [a,c,d,b]
def q3f (a b : List qg) : Prop:=∃ x y z,hasB a x y z∧hasB b x y z
theorem qn9 (l : List qg) (b : l.length≤1000000) (p : qg→Option Bool) (c : qg→Bool) (h : ∀ v∈l,p v = some (c v)) : q1k l p = some (l.any c):=by
  unfold q1k q9i
  rcases Yy l c (fun k _=>(k : Int)) () (Us l p) (fun k a=>by
    simp only [Us,dlt a,cond_true,Qi a,Option.bind_some,w64s a b,h _ (List.getElem_mem a)]
    cases c l[k] <;> simp) (by simp only [Us,dnl,cond_false]) with ⟨h1,h2⟩ | ⟨k,a,hc,_,h2⟩
  · rw [h2]
    have : l.any c = false:=by rw [List.any_eq_false];exact fun v d=>by rw [h1 v d];simp
    rw [this];rfl
  · rw [h2]
    have : l.any c = true:=List.any_eq_true.2 ⟨_,List.getElem_mem a,hc⟩
    simp only [Option.bind_some]
    rw [this,decide_eq_true q0]
def ovB (p q : qg) : Prop:=((q.Lo.X < p.Hi.X∧p.Lo.X < q.Hi.X)∧q.Lo.Y < p.Hi.Y∧p.Lo.Y < q.Hi.Y)∧q.Lo.Z < p.Hi.Z∧p.Lo.Z < q.Hi.Z
instance (p q : qg) : Decidable (ovB p q):=by unfold ovB;infer_instance
theorem qun (p q : qg) : q7v p q = some (decide (ovB p q)):=by
  unfold q7v ovB
  by_cases f : q.Lo.X < p.Hi.X <;> by_cases c : p.Lo.X < q.Hi.X <;> by_cases d : q.Lo.Y < p.Hi.Y <;> by_cases a : p.Lo.Y < q.Hi.Y <;> by_cases g : q.Lo.Z < p.Hi.Z <;> by_cases b : p.Lo.Z < q.Hi.Z <;> simp [f,c,d,a,g,b]
theorem ql9 {p q : qg} (hp : ltB p) (a : ltB q) : ovB p q↔∃ x y z,inB p x y z∧inB q x y z:=by
  obtain ⟨t,p2,p3⟩:=hp
  obtain ⟨b,h,d⟩:=a
  constructor
  · rintro ⟨⟨⟨n,k⟩,l,j⟩,c,s⟩
    exact ⟨max p.Lo.X q.Lo.X,max p.Lo.Y q.Lo.Y,max p.Lo.Z q.Lo.Z,⟨q0,q0,q0⟩,⟨q0,q0,q0⟩⟩
  · rintro ⟨x,y,z,⟨r,f,o⟩,⟨b1,g,m⟩⟩
    exact ⟨⟨⟨q0,q0⟩,q0,q0⟩,q0,q0⟩
open Classical in
theorem qst {a b : List qg} (n : Qr a = 0) (hb : Qr b = 0) : qaw a b = some (decide (q3f a b)):=by
  obtain ⟨la,m,_⟩:=Ya.1 n
  obtain ⟨o,l,_⟩:=Ya.1 hb
  unfold qaw
  rw [qn9 a q0 _ (fun x=>b.any fun y=>decide (ovB y x)) (fun x c=>by
    unfold qax
    rw [qn9 b q0 _ (fun y=>decide (ovB y x)) (fun y _=>qun y x)]
    rfl)]
  simp only [Option.bind_some]
  congr 1
  rw [Bool.eq_iff_iff]
  simp only [List.any_eq_true,decide_eq_true_eq]
  constructor
  · rintro ⟨x,c,y,d,h⟩
    obtain ⟨i,j,k,g,f⟩:=(ql9 (l y d).1 (m x c).1).1 h
    exact ⟨i,j,k,⟨x,c,f⟩,⟨y,d,g⟩⟩
  · rintro ⟨i,j,k,⟨x,c,f⟩,⟨y,d,g⟩⟩
    exact ⟨x,c,y,d,(ql9 (l y d).1 (m x c).1).2 ⟨i,j,k,g,f⟩⟩
theorem qt0 {a b : List qg} (h : a.length + b.length≤100000) : 0 < (mrgB 1 a b).length↔q3f a b:=by
  have d:=q5e 1 h
  have hp:=q8m 1 h
  constructor
  · intro g
    obtain ⟨x,f⟩:=List.exists_mem_of_length_pos g
    have k:=d.lt x f
    have:=(hp x.Lo.X x.Lo.Y x.Lo.Z).1 ⟨x,f,q0,q0,q0⟩
    rw [qjt] at this
    exact ⟨_,_,_,this⟩
  · rintro ⟨x,y,z,l,j⟩
    obtain ⟨c,d,_⟩:=(hp x y z).2 (qjt.2 ⟨l,j⟩)
    exact List.length_pos_of_mem d
theorem qkr {α β : Type} [DecidableEq α] (z v : β) (k b : α) : ∀ es : List (α × β),Yv z b (U8 k v es) = if b = k then v else Yv z b es
  | []=>by simp [Yv,U8]
  | (a,w)::r=>by
    unfold U8
    by_cases h : k = a
    · subst h
      rw [if_pos rfl]
      by_cases c : b = k <;> simp [Yv,c]
    · rw [if_neg h]
      have d:=qkr z v k b r
      by_cases c : b = a
      · subst c
        simp [Yv,Ne.symm h]
      · simp [Yv,c,d]
section
variable (t : Qn) (L : List (List qg))
def cl (i k : Nat) : Prop:=i < k∧∃ p q a b,t.Lines[i]? = some p∧t.Lines[k]? = some q∧L[i]? = some a∧L[k]? = some b∧Zm p q∧q3f a b
open Classical in
noncomputable def row (i m : Nat) : List (Int × Int):=((List.range m).filter fun k=>decide (cl t L i k)).map fun (k : Nat)=>((i : Int),(k : Int))
noncomputable def pairs (n m : Nat) : List (Int × Int):=(List.range m).flatMap fun i=>row t L i n
end
open Classical in
theorem qg5 (t : Qn) (L : List (List qg)) (i m : Nat) : row t L i (m + 1) = row t L i m ++ if cl t L i m then [((i : Int),(m : Int))] else []:=by
  unfold row
  rw [List.range_succ,List.filter_append,List.map_append]
  by_cases h : cl t L i m <;> simp [h]
theorem qg3 (t : Qn) (L : List (List qg)) (i : Nat) : ∀ m,m≤i + 1→row t L i m = []
  | 0,_=>rfl
  | m + 1,h=>by
    rw [qg5,qg3 t L i m q0,if_neg (fun a=>by have:=a.1;omega)];rfl
theorem q8v (t : Qn) (L : List (List qg)) (n m : Nat) : pairs t L n (m + 1) = pairs t L n m ++ row t L m n:=by
  unfold pairs;rw [List.range_succ,List.flatMap_append];simp
theorem qm9 (t : Qn) (L : List (List qg)) (i m : Nat) : (row t L i m).length≤m:=by
  unfold row
  rw [List.length_map]
  exact Nat.le_trans (List.length_filter_le _ _) qe
theorem qfv (t : Qn) (L : List (List qg)) (n : Nat) : ∀ m,(pairs t L n m).length≤m * n
  | 0=>by simp [pairs]
  | m + 1=>by
    rw [q8v,List.length_append,Nat.succ_mul]
    have:=qfv t L n m
    have:=qm9 t L m n
    omega
section
variable {t : Qn} {bs : List (List qg)}
noncomputable def Jy (t : Qn) (bs : List (List qg)) : List (Int × Int) × Int:=if (K5 t bs).2≠0 then ([],(K5 t bs).2) else (pairs t (K5 t bs).1 t.Lines.length t.Lines.length,0)
open Classical in
theorem qi3 (h1 : t.Lines.length≤2000) (h2 : t.Marks.length≤1000000) (h3 : bs.length≤1000000) : q4g t bs = some (Jy t bs):=by
  unfold q4g Jy
  rw [qds t bs q0 h2 h3,Option.bind_some]
  by_cases y : (K5 t bs).2 = 0
  rotate_left
  · rw [if_pos y,show ((K5 t bs).2 != 0) = true by simpa using y];rfl
  rw [if_neg (by simp [y]),y,show ((0 : Int) != 0) = false from rfl,cond_false]
  have s : (K5 t bs).1.length = t.Lines.length:=by rw [(qbd y).2.2];simp
  have l:=qdr (t:=t) (bs:=bs)
  generalize K5 t bs = R at y s l ⊢
  have found : ∃ es,loop (q7r R t) (0,[]) = some es∧∀ a b : Nat,Yv false ((a : Int),(b : Int)) es = decide (b < R.1.length∧cl t R.1 a b):=by
    refine Zs (fun k es=>((k : Int),es)) R.1.length (fun k es=>∀ a b : Nat,Yv false ((a : Int),(b : Int)) es = decide (b < k∧cl t R.1 a b)) (fun es=>∀ a b : Nat,Yv false ((a : Int),(b : Int)) es = decide (b < R.1.length∧cl t R.1 a b)) (fun k es m hi=>?_) (fun es hi=>⟨es,by simp only [q7r,dnl,cond_false],hi⟩) (Nat.zero_le _) (fun a b=>by simp [Yv])
    obtain ⟨z,e1,e2⟩:=Zs (f:=q4h ((k : Int),es) t R) (fun i es=>((i : Int),es)) k (fun i es=>∀ a b : Nat,Yv false ((a : Int),(b : Int)) es = decide ((b < k∨(b = k∧a < i))∧cl t R.1 a b)) (fun es=>∀ a b : Nat,Yv false ((a : Int),(b : Int)) es = decide (b < k + 1∧cl t R.1 a b)) (fun i es v hi=>by
      have x : k < t.Lines.length:=by omega
      have u : i < t.Lines.length:=by omega
      left
      have w : cl t R.1 i k↔Zm t.Lines[i] t.Lines[k]∧q3f (R.1[i]'(q0)) R.1[k]:=by
        unfold cl
        constructor
        · rintro ⟨_,p,q,a,b,d,c,g3,g4,g5,g6⟩
          rw [List.getElem?_eq_getElem u] at d
          rw [List.getElem?_eq_getElem x] at c
          rw [List.getElem?_eq_getElem q0] at g3
          rw [List.getElem?_eq_getElem m] at g4
          cases d;cases c;cases g3;cases g4
          exact ⟨g5,g6⟩
        · rintro ⟨g5,g6⟩
          exact ⟨v,_,_,_,_,List.getElem?_eq_getElem u,List.getElem?_eq_getElem x,List.getElem?_eq_getElem q0,List.getElem?_eq_getElem m,g5,g6⟩
      refine ⟨if cl t R.1 i k then U8 ((i : Int),(k : Int)) true es else es,?_,fun a b=>?_⟩
      · have r : i < R.1.length:=by omega
        simp only [q4h,dlt v,cond_true,Qi u,Qi x,Qi r,Qi m,Option.bind_some,qop,qst (l _ (List.getElem_mem r)) (l _ (List.getElem_mem m)),w64s v (show k≤1000000 by omega)]
        by_cases d : Zm t.Lines[i] t.Lines[k]
        · by_cases c : q3f R.1[i] R.1[k]
          · rw [if_pos (w.2 ⟨d,c⟩),decide_eq_true d,decide_eq_true c];rfl
          · rw [if_neg (fun h=>c (w.1 h).2),decide_eq_true d,decide_eq_false c];rfl
        · rw [if_neg (fun h=>d (w.1 h).1),decide_eq_false d];rfl
      · have ha:=hi a b
        by_cases o : cl t R.1 i k
        · rw [if_pos o,qkr,ha]
          by_cases n : a = i∧b = k
          · obtain ⟨rfl,rfl⟩:=n
            rw [if_pos rfl,decide_eq_true ⟨.inr ⟨rfl,q0⟩,o⟩]
          · rw [if_neg (fun h=>n (by simp only [Prod.mk.injEq] at h;omega))]
            rw [decide_eq_decide]
            constructor
            · rintro ⟨d,c⟩;exact ⟨q0,c⟩
            · rintro ⟨d,c⟩;exact ⟨q0,c⟩
        · rw [if_neg o,ha,decide_eq_decide]
          constructor
          · rintro ⟨d,c⟩;exact ⟨q0,c⟩
          · rintro ⟨d,c⟩
            refine ⟨?_,c⟩
            by_cases n : a = i∧b = k
            · obtain ⟨rfl,rfl⟩:=n;exact absurd c o
            · omega) (fun es hi=>⟨es,by simp only [q4h,dnl,cond_false],fun a b=>by
        rw [hi,decide_eq_decide]
        constructor
        · rintro ⟨d,c⟩;exact ⟨q0,c⟩
        · rintro ⟨d,c⟩
          have:=c.1
          exact ⟨q0,c⟩⟩) (Nat.zero_le k) (c0:=es) (fun a b=>by
        rw [hi a b,decide_eq_decide]
        constructor
        · rintro ⟨d,c⟩;exact ⟨.inl d,c⟩
        · rintro ⟨d,c⟩;exact ⟨q0,c⟩)
    refine .inl ⟨z,?_,e2⟩
    have e1 : loop (q4h ((k : Int),es) t R) (0,es) = some z:=e1
    simp only [q7r,dlt m,cond_true,e1,Option.bind_some,w64s m (show R.1.length≤1000000 by omega)]
  obtain ⟨es,e1,e2⟩:=found
  rw [e1]
  simp only [Option.bind_some]
  have e3 : ∀ a b : Nat,b < R.1.length→Yv false ((a : Int),(b : Int)) es = decide (cl t R.1 a b):=fun a b hb=>by rw [e2,decide_eq_decide];exact ⟨fun h=>h.2,fun h=>⟨hb,h⟩⟩
  have ao : R.1.length * R.1.length≤2000 * 2000:=Nat.mul_le_mul q0 q0
  have j:=Zh (f:=q4i R es) (fun i=>((i : Int),pairs t R.1 R.1.length i)) R.1.length (pairs t R.1 R.1.length R.1.length) (fun i hi=>by
    have ak:=qfv t R.1 R.1.length i
    have an : i * R.1.length≤R.1.length * R.1.length:=Nat.mul_le_mul_right _ (Nat.le_of_lt hi)
    have g:=Zh (f:=q4j R ((i : Int),pairs t R.1 R.1.length i) es) (fun k=>((k : Int),pairs t R.1 R.1.length i ++ row t R.1 i k)) R.1.length (pairs t R.1 R.1.length i ++ row t R.1 i R.1.length) (fun k m=>by
      have al:=qm9 t R.1 i k
      simp only [q4j,dlt m,cond_true,e3 i k m,w64s m (show R.1.length≤1000000 by omega)]
      rw [qg5]
      by_cases o : cl t R.1 i k
      · rw [decide_eq_true o,if_pos o,cond_true,Ky (by simp;omega),List.append_assoc];rfl
      · rw [decide_eq_false o,if_neg o,List.append_nil];rfl) (by simp only [q4j,dnl,cond_false]) (Nat.zero_le _)
    have g : loop (q4j R ((i : Int),pairs t R.1 R.1.length i) es) (0,pairs t R.1 R.1.length i) = some (pairs t R.1 R.1.length i ++ row t R.1 i R.1.length):=by
      have e0 : (((0 : Nat) : Int),pairs t R.1 R.1.length i ++ row t R.1 i 0) = ((0 : Int),pairs t R.1 R.1.length i):=by simp [row]
      rw [← e0];exact g
    simp only [q4i,dlt hi,cond_true,g,Option.bind_some,w64s hi (show R.1.length≤1000000 by omega),q8v]) (by simp only [q4i,dnl,cond_false]) (Nat.zero_le _)
  have j : loop (q4i R es) (0,[]) = some (pairs t R.1 R.1.length R.1.length):=j
  rw [j,s]
  rfl
theorem qwo (p : List (Int × Int)) (b : p.length≤1000000) : q97 p p = some true:=by
  unfold q97
  rw [show ((p.length : Int) != (p.length : Int)) = false by simp,cond_false]
  rcases Yy p (fun _=>false) (fun k _=>false) () (q5w p p) (fun k a=>by
    simp only [q5w,dlt a,cond_true,Qi a,Option.bind_some,w64s a b,beq_self_eq_true,Bool.and_true,Bool.not_true,cond_false]
    rfl) (by simp only [q5w,dnl,cond_false]) with ⟨a1,a2⟩ | ⟨k,a,hc,_,a2⟩
  · rw [a2];rfl
  · cases hc
theorem qq4 (a : t.Lines.length≤12) : (Jy t bs).1.length≤144:=by
  unfold Jy
  split
  · simp
  · have:=qfv t (K5 t bs).1 t.Lines.length t.Lines.length
    have:=Nat.mul_le_mul a a
    simp only;omega
end
end Go.Sh
namespace Go.Sh
open Go Go.Am
theorem qp2 {t : Qn} {bs : List (List qg)} (h : Zj t bs) : (K5 t bs).2 = fstE (barB bs) t.Lines:=by
  unfold K5
  rw [if_neg (not_not_intro (q88.2 h))]
  by_cases a : fstE (barB bs) t.Lines = 0
  · rw [if_pos a,a]
  · rw [if_neg a]
theorem qp1 {t : Qn} {bs : List (List qg)} (h : Zj t bs) : (K5 t bs).2 = 0∨((K5 t bs).1 = []∧((K5 t bs).2 = 4∨(K5 t bs).2 = 16)):=by
  by_cases a : (K5 t bs).2 = 0
  · exact .inl a
  · have e:=qp2 h
    have c : (K5 t bs).1 = []:=by
      unfold K5 at a ⊢
      rw [if_neg (not_not_intro (q88.2 h))] at a ⊢
      split at a
      · exact absurd rfl a
      · rename_i g;rw [if_neg g]
    refine .inr ⟨c,?_⟩
    have d : fstE (barB bs) t.Lines = 0∨fstE (barB bs) t.Lines = 4∨fstE (barB bs) t.Lines = 16:=qji (P:=fun e=>e = 0∨e = 4∨e = 16) (fun l b=>by
      rcases qox l (q1w bs l) (Ya.1 (qhq h b)).1 with g | ⟨_,g | g⟩
      · exact .inl g
      · exact .inr (.inl g)
      · exact .inr (.inr g)) (.inl rfl)
    rw [e] at a ⊢
    rcases d with g | g | g
    · exact absurd g a
    · exact .inl g
    · exact .inr g
def partT (ls : List Qx) : Qn:={Lines:=ls,Marks:=[],End:=({Frame:=({Turn:=0,At:=({X:=0,Y:=0,Z:=0} : Qb)} : Y5),Drawn:=0} : Jj)}
theorem qog : FOk ({Turn:=0,At:=({X:=0,Y:=0,Z:=0} : Qb)} : Y5):=by unfold FOk InV;decide
end Go.Sh
namespace Go.Sh
open Go Go.Am
instance (a c : Qb) : Decidable (Ax a c):=by unfold Ax;infer_instance
instance (l : Qx) : Decidable (LOk l):=by unfold LOk;infer_instance
def ln (x y u v d : Int) : Qx:={From:=({X:=x,Y:=y,Z:=0} : Qb),To:=({X:=u,Y:=v,Z:=0} : Qb),Depth:=d}
def ub : List qg:=[bx 0 0 0 1 1 1]
theorem qsf (x y u v : Int) : q1c x y u v = some (ln x y u v 0):=rfl
theorem q12u : q58 = some ub:=rfl
theorem qgr : Qr ub = 0:=q1y qs
theorem qhz {ls : List Qx} {bs : List (List qg)} (a : ls.length≤2000∧bs.length≤20∧bs.length≠0) (c : ∀ l∈ls,LOk l∧0≤l.Depth) (f : ∀ b∈bs,Qr b = 0) : Zj (partT ls) bs:=
  ⟨⟨⟨a.1,by simp [partT],qog⟩,fun l h=>(c l h).1,fun m d=>by simp [partT] at d⟩,a.2.1,f,fun _ e=>a.2.2 (by rw [e];rfl),fun l h=>(c l h).2⟩
theorem qhl {l : Qx} {b m out : List qg} (e : b.map (swp l.From l.To) = m) (h : m.length≤400∧(∀ x∈m,vB x)∧out.length≤400) (c : isB out) (d : ∀ x y z,hasB m x y z↔hasB out x y z) : barS l b = (out,0):=by
  unfold barS
  rw [if_pos (fun x a=>h.2.1 _ (e ▸ List.mem_map_of_mem a)),e]
  exact qsw h c d
theorem qhm {t : Qn} {bs : List (List qg)} {g : Qx→List qg} (h : Zj t bs) (b : ∀ l∈t.Lines,barB bs l = (g l,0)) : K5 t bs = (t.Lines.map g,0):=by
  have e : fstE (barB bs) t.Lines = 0:=qes.2 fun l a=>by rw [b l a]
  unfold K5
  rw [if_neg (not_not_intro (q88.2 h)),if_pos e]
  congr 1
  exact List.map_congr_left fun l a=>by rw [b l a]
theorem q12b {t : Qn} {bs : List (List qg)} {L : List (List qg)} (h : K5 t bs = (L,0)) : qaq t bs = Kx [] L:=by
  unfold qaq;rw [h];rfl
theorem qf3 {o b q : List qg} {r : List (List qg)} (h : jB 2 o b = (q,0)) : Kx o (b::r) = Kx q r:=by
  rw [Kx,h];rfl
theorem qoz {l : Qx} {b : List qg} (h : LOk l) (hb : Qr b = 0) : barT l b = barS l b:=by
  have : TOk (oneT l):=⟨⟨by simp [oneT],by simp [oneT],qog⟩,fun k a=>by simp [oneT] at a;subst a;exact h,fun m c=>by simp [oneT] at c⟩
  unfold barT
  rw [if_neg (not_not_intro this),if_neg (not_not_intro hb)]
theorem qrr (b : qg) (x y z : Int) : hasB [b] x y z↔inB b x y z:=by simp [qev,q3a]
open Classical in
theorem quq {t : Qn} {L : List (List qg)} (h : cl t L 0 1) : pairs t L 2 2 = [(0,1)]:=by
  have e : pairs t L 2 2 = row t L 0 2 ++ row t L 1 2:=by rw [q8v,q8v];rfl
  rw [e,qg3 t L 1 2 q0,qg5,qg3 t L 0 1 q0,if_pos h];rfl
theorem qom : q8o = some true:=by
  have b1 : barT (ln 0 0 3 0 0) ub = ([bx 0 0 0 4 1 1],0):=by
    rw [qoz qs qgr]
    exact qhl (m:=[bx 0 0 0 4 1 1]) rfl qs qs fun x y z=>Iff.rfl
  let g : Qx→List qg:=fun l=>ub.map (swp l.From l.To)
  have c : ∀ ls : List Qx,(∀ l∈ls,q1w [ub] l = ub∧((ub.map (swp l.From l.To)).length≤400∧(∀ x∈ub.map (swp l.From l.To),vB x)∧(ub.map (swp l.From l.To)).length≤400)∧isB (ub.map (swp l.From l.To)))→∀ l∈ls,barB [ub] l = (g l,0):=fun ls h l q=>by
    obtain ⟨n,f,k⟩:=h l q
    unfold barB;rw [n]
    exact qhl (m:=ub.map (swp l.From l.To)) rfl f k fun x y z=>Iff.rfl
  have j : qaq (partT [ln 0 0 1 0 0,ln 1 0 2 0 0,ln 2 0 2 1 0]) [ub] = ([bx 0 0 0 2 1 1,bx 2 0 0 3 2 1],0):=by
    have hb:=qhm (qhz (bs:=[ub]) (ls:=[ln 0 0 1 0 0,ln 1 0 2 0 0,ln 2 0 2 1 0]) qs qs (by simp [qgr])) (c [ln 0 0 1 0 0,ln 1 0 2 0 0,ln 2 0 2 1 0] qs)
    rw [q12b hb]
    have e : (partT [ln 0 0 1 0 0,ln 1 0 2 0 0,ln 2 0 2 1 0]).Lines.map g = [[bx 0 0 0 2 1 1],[bx 1 0 0 3 1 1],[bx 2 0 0 3 2 1]]:=rfl
    have s : jB 2 [] [bx 0 0 0 2 1 1] = ([bx 0 0 0 2 1 1],0):=qf2 qe3 (q1y qs) (isB.can qs) qs fun x y z=>by rw [q3c];simp [q3a]
    have d : jB 2 [bx 0 0 0 2 1 1] [bx 1 0 0 3 1 1] = ([bx 0 0 0 3 1 1],0):=qf2 (q1y qs) (q1y qs) (isB.can qs) qs fun x y z=>by
      rw [q3c];simp only [qrr,inB,bx];omega
    have o : jB 2 [bx 0 0 0 3 1 1] [bx 2 0 0 3 2 1] = ([bx 0 0 0 2 1 1,bx 2 0 0 3 2 1],0):=qf2 (q1y qs) (q1y qs) (isB.can qs) qs fun x y z=>by
      rw [q3c];simp only [qev,q3a,or_false,inB,bx];omega
    rw [e,qf3 s,qf3 d,qf3 o];rfl
  have r : volume [bx 0 0 0 2 1 1,bx 2 0 0 3 2 1] = (4,0):=by unfold volume;rw [if_neg (by simp [q1y (l:=[bx 0 0 0 2 1 1,bx 2 0 0 3 2 1]) qs])];rfl
  have c1 : Jy (partT [ln 0 0 2 0 0,ln 1 (-1) 1 1 0]) [ub] = ([(0,1)],0):=by
    have hb:=qhm (qhz (bs:=[ub]) (ls:=[ln 0 0 2 0 0,ln 1 (-1) 1 1 0]) qs qs (by simp [qgr])) (c [ln 0 0 2 0 0,ln 1 (-1) 1 1 0] qs)
    have e : (partT [ln 0 0 2 0 0,ln 1 (-1) 1 1 0]).Lines.map g = [[bx 0 0 0 3 1 1],[bx 1 (-1) 0 2 2 1]]:=rfl
    rw [e] at hb
    unfold Jy
    rw [hb]
    have p : cl (partT [ln 0 0 2 0 0,ln 1 (-1) 1 1 0]) [[bx 0 0 0 3 1 1],[bx 1 (-1) 0 2 2 1]] 0 1:=
      ⟨qs,ln 0 0 2 0 0,ln 1 (-1) 1 1 0,_,_,rfl,rfl,rfl,rfl,by unfold Zm ln;simp,1,0,0,qs,qs⟩
    rw [if_neg qs]
    exact Prod.ext (quq p) rfl
  have b : q7s ({Lines:=[ln 0 0 1 0 0,ln 1 0 2 0 0,ln 2 0 2 1 0],Marks:=[],End:=({Frame:=({Turn:=0,At:=({X:=0,Y:=0,Z:=0} : Qb)} : Y5),Drawn:=0} : Jj)} : Qn) [ub] = _:=q12a (partT [ln 0 0 1 0 0,ln 1 0 2 0 0,ln 2 0 2 1 0]) [ub] qs qs qs
  have a : q4g ({Lines:=[ln 0 0 2 0 0,ln 1 (-1) 1 1 0],Marks:=[],End:=({Frame:=({Turn:=0,At:=({X:=0,Y:=0,Z:=0} : Qb)} : Y5),Drawn:=0} : Jj)} : Qn) [ub] = _:=qi3 (t:=partT [ln 0 0 2 0 0,ln 1 (-1) 1 1 0]) (bs:=[ub]) qs qs qs
  unfold q8o
  simp only [qsf,q12u,Option.bind_some,qwn,b1,b,j,q117,r,a,c1]
  rw [show ({Lo:=({X:=0,Y:=0,Z:=0} : Qb),Hi:=({X:=4,Y:=1,Z:=1} : Qb)} : qg) = bx 0 0 0 4 1 1 from rfl,sameBox _ _ qs,qwo _ qs]
  simp
structure q82 (t : Qn) (bs : List (List qg)) : Prop where
  small : Small t bs
  tok : TOk t
  some' : 1≤bs.length∧bs.length≤5
  depth : ∀ l∈t.Lines,0≤l.Depth
  near : ∀ l∈t.Lines,InV l.From (-1000)∧max (max l.From.X l.From.Y) l.From.Z≤1000
  brush : ∀ b∈bs,Qr b = 0
theorem q82.ne {t : Qn} {bs : List (List qg)} (h : q82 t bs) : bs≠[]:=fun e=>by have:=h.some'.1;rw [e] at this;simp at this
theorem q82.ok {t : Qn} {bs : List (List qg)} (h : q82 t bs) : Zj t bs:=⟨h.tok,by have:=h.some'.2;omega,h.brush,fun _=>h.ne,h.depth⟩
theorem qr7 (t : Qn) (bs : List (List qg)) : q54 t bs = some false∨(q54 t bs = some true∧q82 t bs):=by
  unfold q54
  rcases qrp t bs with h | ⟨h,hs⟩
  · rw [h];exact .inl rfl
  rw [h]
  have p:=hs.lines
  have n:=hs.marks
  have o:=hs.many
  simp only [Option.bind_some,cond_false,qvg t q0 q0]
  by_cases g : TOk t
  rotate_left
  · rw [if_neg g];exact .inl rfl
  rw [if_pos g,show ((0 : Int) != 0) = false from rfl]
  simp only [Option.bind_some,cond_false]
  by_cases r : bs.length < 1
  · rw [decide_eq_true (by omega : (bs.length : Int) < 1)];exact .inl rfl
  by_cases q : bs.length > 5
  · rw [decide_eq_false (by omega : ¬ (bs.length : Int) < 1),decide_eq_true (by omega : (bs.length : Int) > 5)];exact .inl rfl
  rw [decide_eq_false (by omega : ¬ (bs.length : Int) < 1),decide_eq_false (by omega : ¬ (bs.length : Int) > 5)]
  simp only [Option.bind_some,cond_false]
  rcases Yy t.Lines (fun l=>!decide (0≤l.Depth∧InV l.From (-1000)∧max (max l.From.X l.From.Y) l.From.Z≤1000)) (fun k _=>false) () (q55 t) (fun k a=>by
    simp only [q55,dlt a,cond_true,Qi a,Option.bind_some,w64s a (show t.Lines.length≤1000000 by omega),qb4]
    generalize t.Lines[k] = l
    by_cases f : l.Depth < 0
    · have e : decide (0≤l.Depth∧InV l.From (-1000)∧max (max l.From.X l.From.Y) l.From.Z≤1000) = false:=decide_eq_false fun h=>by omega
      rw [e,decide_eq_true f];rfl
    by_cases c : InV l.From (-1000)
    · by_cases m : max (max l.From.X l.From.Y) l.From.Z > 1000
      · have e : decide (0≤l.Depth∧InV l.From (-1000)∧max (max l.From.X l.From.Y) l.From.Z≤1000) = false:=decide_eq_false fun h=>by omega
        rw [e,decide_eq_false f,decide_eq_true c,decide_eq_true m];rfl
      · have e : decide (0≤l.Depth∧InV l.From (-1000)∧max (max l.From.X l.From.Y) l.From.Z≤1000) = true:=decide_eq_true ⟨q0,c,q0⟩
        rw [e,decide_eq_false f,decide_eq_true c,decide_eq_false m];rfl
    · have e : decide (0≤l.Depth∧InV l.From (-1000)∧max (max l.From.X l.From.Y) l.From.Z≤1000) = false:=decide_eq_false fun h=>c h.2.1
      rw [e,decide_eq_false f,decide_eq_false c];rfl) (by simp only [q55,dnl,cond_false]) with ⟨a1,a2⟩ | ⟨k,a,hc,_,a2⟩
  rotate_left
  · rw [a2];exact .inl rfl
  rw [a2]
  simp only [Option.bind_some]
  rcases Yy bs (fun b=>decide (Qr b≠0)) (fun k _=>false) () (q56 bs) (fun k a=>by
    simp only [q56,dlt a,cond_true,Qi a,Option.bind_some,w64s a (show bs.length≤1000000 by omega),qvh]
    by_cases h : Qr bs[k] = 0 <;> simp [qdv,h]) (by simp only [q56,dnl,cond_false]) with ⟨b1,b2⟩ | ⟨k,a,hc,_,b2⟩
  rotate_left
  · rw [b2];exact .inl rfl
  rw [b2]
  have j : ∀ l∈t.Lines,0≤l.Depth∧InV l.From (-1000)∧max (max l.From.X l.From.Y) l.From.Z≤1000:=fun l d=>by simpa using a1 l d
  exact .inr ⟨rfl,hs,g,q0,fun l d=>(j l d).1,fun l d=>(j l d).2,fun b hb=>by simpa using b1 b hb⟩
end Go.Sh
namespace Go.Sh
open Go Go.Am
def lexP (p q : Int × Int) : Prop:=p.1 < q.1∨(p.1 = q.1∧p.2 < q.2)
open Classical in
theorem qma {t : Qn} {L : List (List qg)} {i m : Nat} {p : Int × Int} : p∈row t L i m↔∃ k : Nat,k < m∧cl t L i k∧p = ((i : Int),(k : Int)):=by
  unfold row
  simp only [List.mem_map,List.mem_filter,List.mem_range,decide_eq_true_eq]
  constructor
  · rintro ⟨k,⟨b,a⟩,rfl⟩;exact ⟨k,b,a,rfl⟩
  · rintro ⟨k,b,a,rfl⟩;exact ⟨k,⟨b,a⟩,rfl⟩
theorem qc5 {t : Qn} {L : List (List qg)} {n m : Nat} {p : Int × Int} : p∈pairs t L n m↔∃ i k : Nat,i < m∧k < n∧cl t L i k∧p = ((i : Int),(k : Int)):=by
  unfold pairs
  simp only [List.mem_flatMap,List.mem_range,qma]
  constructor
  · rintro ⟨i,d,k,b,c,a⟩;exact ⟨i,k,d,b,c,a⟩
  · rintro ⟨i,k,d,b,c,a⟩;exact ⟨i,d,k,b,c,a⟩
open Classical in
theorem qwk (t : Qn) (L : List (List qg)) (i m : Nat) : (row t L i m).Pairwise lexP:=by
  unfold row
  rw [List.pairwise_map]
  refine (List.Pairwise.filter _ (List.pairwise_lt_range (n:=m))).imp fun h=>?_
  exact .inr ⟨rfl,by show (_ : Int) < _;omega⟩
theorem qlb (t : Qn) (L : List (List qg)) (n : Nat) : ∀ m,(pairs t L n m).Pairwise lexP
  | 0=>by simp [pairs]
  | m + 1=>by
    rw [q8v,List.pairwise_append]
    refine ⟨qlb t L n m,qwk t L m n,fun a c b hb=>?_⟩
    obtain ⟨i,k,f,_,_,rfl⟩:=qc5.1 c
    obtain ⟨d,_,_,rfl⟩:=qma.1 hb
    exact .inl (by show (i : Int) < m;omega)
theorem qup {t : Qn} {L : List (List qg)} {n m : Nat} : ∀ p∈pairs t L n m,p.1 < p.2:=fun p hp=>by
  obtain ⟨i,k,_,_,h,rfl⟩:=qc5.1 hp
  have:=h.1
  show (i : Int) < k;omega
theorem qq5 {R : List (Int × Int) × Int} (m : R.1.length≤1000000) (s : ∀ p∈R.1,p.1 < p.2) (q : R.1.Pairwise lexP) (i k : Int) : loop (q3e R i k) (false,0) = some (.inl (R.1.any fun p=>p == (i,k))):=by
  have key:=Zh (f:=q3e R i k) (fun n=>((R.1.take n).any fun p=>p == (i,k),(n : Int))) R.1.length (.inl (R.1.any fun p=>p == (i,k))) (fun n b=>by
    have t:=s _ (List.getElem_mem b)
    have h : decide (R.1[n].1 ≥ R.1[n].2) = false:=decide_eq_false q0
    have d : (R.1.take (n + 1)).any (fun p=>p == (i,k)) = ((R.1.take n).any (fun p=>p == (i,k)) || (R.1[n].1 == i && (R.1[n].2 == k && true))):=by
      rw [List.take_succ_eq_append_getElem b,List.any_append]
      simp only [List.any_cons,List.any_nil,Bool.or_false,Bool.and_true];rfl
    simp only [q3e,dlt b,cond_true,Qi b,Option.bind_some,h,cond_false,w64s b m]
    rw [d]
    generalize (R.1.take n).any (fun p=>p == (i,k)) = a
    have r : (cond a (some true) (some (R.1[n].1 == i && (R.1[n].2 == k && true)))) = some (a || (R.1[n].1 == i && (R.1[n].2 == k && true))):=by cases a <;> rfl
    rw [r]
    simp only [Option.bind_some]
    cases n with
    | zero=>rfl
    | succ j=>
      have c : j < R.1.length:=by omega
      have l : w64 (((j + 1 : Nat) : Int) - 1) = (j : Int):=by rw [Qe q0];omega
      have o : lexP R.1[j] R.1[j + 1]:=List.pairwise_iff_getElem.1 q j (j + 1) c b q0
      rw [decide_eq_true (by omega : ((j + 1 : Nat) : Int) > 0),l,Qi c]
      simp only [cond_true,Option.bind_some]
      rcases o with g | ⟨g,u⟩
      · rw [decide_eq_false (by omega : ¬ R.1[j].1 > R.1[j + 1].1),show (R.1[j].1 == R.1[j + 1].1) = false by simpa using (by omega : R.1[j].1≠R.1[j + 1].1)];rfl
      · rw [decide_eq_false (by omega : ¬ R.1[j].1 > R.1[j + 1].1),show (R.1[j].1 == R.1[j + 1].1) = true by simpa using g,decide_eq_false (by omega : ¬ R.1[j].2 ≥ R.1[j + 1].2)];rfl) (by
    simp only [q3e,dnl,cond_false,List.take_length]) (Nat.zero_le _)
  exact key
theorem qq6 (t : Qn) (bs : List (List qg)) : (Jy t bs).2 = (K5 t bs).2:=by
  unfold Jy
  by_cases h : (K5 t bs).2 = 0
  · rw [if_neg (not_not_intro h),h]
  · rw [if_pos h]
theorem q13p (t : Qn) (bs : List (List qg)) (i k : Int) : qbw t bs i k = some true:=by
  unfold qbw
  rw [qom]
  simp only [Option.bind_some]
  rcases qr7 t bs with h | ⟨h,w⟩
  · rw [h];rfl
  rw [h]
  simp only [Option.bind_some,Bool.not_true,cond_false]
  by_cases g1 : i < 0
  · rw [decide_eq_true g1];rfl
  by_cases g2 : k≤i
  · rw [decide_eq_false g1,decide_eq_true g2];rfl
  by_cases g3 : k ≥ (t.Lines.length : Int)
  · rw [decide_eq_false g1,decide_eq_false g2,decide_eq_true g3];rfl
  rw [decide_eq_false g1,decide_eq_false g2,decide_eq_false g3]
  obtain ⟨a,rfl⟩:=Int.eq_ofNat_of_zero_le (by omega : 0≤i)
  obtain ⟨b,rfl⟩:=Int.eq_ofNat_of_zero_le (by omega : 0≤k)
  have h1:=w.small.lines
  have h2:=w.small.marks
  have h3:=w.small.many
  simp only [cond_false,Option.bind_some,qds t bs q0 q0 q0,qi3 (t:=t) (bs:=bs) q0 q0 q0,qq6]
  by_cases u : (K5 t bs).2 = 0
  rotate_left
  · rcases qp1 w.ok with g | ⟨_,g | g⟩
    · exact absurd g u
    · rw [g];rfl
    · rw [g];rfl
  rw [u]
  simp only [bne_self_eq_false,cond_false,Option.bind_some]
  have m : (K5 t bs).1.length = t.Lines.length:=by rw [(qbd u).2.2];simp
  have hc : (Jy t bs).1 = pairs t (K5 t bs).1 t.Lines.length t.Lines.length:=by unfold Jy;rw [if_neg (not_not_intro u)]
  have ao:=qq4 (t:=t) (bs:=bs) h1
  have n:=qq5 (R:=Jy t bs) q0 (by rw [hc];exact qup) (by rw [hc];exact qlb _ _ _ _) (a : Int) (b : Int)
  have c:=qdr (t:=t) (bs:=bs)
  rw [n,hc]
  generalize K5 t bs = R at m c ⊢
  have s : a < R.1.length:=by omega
  have hb : b < R.1.length:=by omega
  have f : a < t.Lines.length:=by omega
  have j : b < t.Lines.length:=by omega
  have ab : a < b:=by omega
  have i1 : idx R.1 (a : Int) = some R.1[a]:=Qi s
  have i2 : idx R.1 (b : Int) = some R.1[b]:=Qi hb
  have i3 : idx t.Lines (a : Int) = some t.Lines[a]:=Qi f
  have i4 : idx t.Lines (b : Int) = some t.Lines[b]:=Qi j
  have d : cl t R.1 a b↔q3f R.1[a] R.1[b]∧Zm t.Lines[a] t.Lines[b]:=by
    unfold cl
    constructor
    · rintro ⟨_,p,q,x,y,e1,e2,e3,e4,e5,e6⟩
      rw [List.getElem?_eq_getElem f] at e1
      rw [List.getElem?_eq_getElem j] at e2
      rw [List.getElem?_eq_getElem s] at e3
      rw [List.getElem?_eq_getElem hb] at e4
      cases e1;cases e2;cases e3;cases e4
      exact ⟨e6,e5⟩
    · rintro ⟨e6,e5⟩
      exact ⟨ab,_,_,_,_,List.getElem?_eq_getElem f,List.getElem?_eq_getElem j,List.getElem?_eq_getElem s,List.getElem?_eq_getElem hb,e5,e6⟩
  have l : ((pairs t R.1 t.Lines.length t.Lines.length).any fun p=>p == ((a : Int),(b : Int))) = true↔cl t R.1 a b:=by
    rw [List.any_eq_true]
    constructor
    · rintro ⟨p,hp,e⟩
      obtain ⟨i,k,_,_,h,rfl⟩:=qc5.1 hp
      have e:=eq_of_beq e
      simp only [Prod.mk.injEq] at e
      have : i = a:=by omega
      have : k = b:=by omega
      subst i;subst k;exact h
    · intro h
      exact ⟨_,qc5.2 ⟨a,b,f,j,h,rfl⟩,beq_self_eq_true _⟩
  rw [show ((R.1.length : Int) != (t.Lines.length : Int)) = false by simp [m],i1,i2,i3,i4]
  simp only [cond_false,Option.bind_some,q113,qoa]
  have l1:=(Ya.1 (c _ (List.getElem_mem s))).1
  have l2:=(Ya.1 (c _ (List.getElem_mem hb))).1
  rcases qk0 1 (c _ (List.getElem_mem s)) (c _ (List.getElem_mem hb)) with hj | ⟨hj,_,_⟩
  · rw [hj];rfl
  have hm:=qt0 (a:=R.1[a]) (b:=R.1[b]) q0
  rw [hj]
  generalize (pairs t R.1 t.Lines.length t.Lines.length).any _ = A at l ⊢
  generalize t.Lines[a] = p at *
  generalize t.Lines[b] = q at *
  simp only [beq_self_eq_true,cond_true,Option.bind_some,bne_self_eq_false,cond_false]
  have fin : ∀ B : Bool,(B = true↔cl t R.1 a b)→(A == B) = true:=fun B hB=>by
    have : A = B:=by rw [Bool.eq_iff_iff,l,hB]
    rw [this];simp
  by_cases z : q3f R.1[a] R.1[b]
  rotate_left
  · rw [decide_eq_false (fun h=>z (hm.1 q0))]
    simp only [cond_false,Option.bind_some]
    rw [fin false (by simp [d,z])]
  rw [decide_eq_true (by have:=hm.2 z;omega)]
  simp only [cond_true,Option.bind_some]
  by_cases f1 : p.From = q.From
  · simp only [decide_eq_true f1,Bool.not_true,cond_false,Option.bind_some]
    rw [fin false (by simp [d,Zm,f1])]
  by_cases o : p.From = q.To
  · simp only [decide_eq_false f1,decide_eq_true o,Bool.not_true,Bool.not_false,cond_true,cond_false,Option.bind_some]
    rw [fin false (by simp [d,Zm,o])]
  by_cases r : p.To = q.From
  · simp only [decide_eq_false f1,decide_eq_false o,decide_eq_true r,Bool.not_true,Bool.not_false,cond_true,cond_false,Option.bind_some]
    rw [fin false (by simp [d,Zm,r])]
  by_cases v : p.To = q.To
  · simp only [decide_eq_false f1,decide_eq_false o,decide_eq_false r,decide_eq_true v,Bool.not_true,Bool.not_false,cond_true,cond_false,Option.bind_some]
    rw [fin false (by simp [d,Zm,v])]
  simp only [decide_eq_false f1,decide_eq_false o,decide_eq_false r,decide_eq_false v,Bool.not_false,cond_true,Option.bind_some]
  rw [fin true (by simp [d,Zm,f1,o,r,v,z])]
end Go.Sh
