/- Sw1 Sw2 Sw3 Sw4 Sw5 Sw6 Sw7 Sw8 Sw9 Sw10 Rs8 Rs9 -/
import Derived.Test.YtbknppciefodiaaGreatK12
namespace Go.Sh
open Go Go.Am
def swp (a c : qw) (b : qh) : qh:={Lo:=({X:=b.Lo.X + min a.X c.X,Y:=b.Lo.Y + min a.Y c.Y,Z:=b.Lo.Z + min a.Z c.Z} : qw),Hi:=({X:=b.Hi.X + max a.X c.X,Y:=b.Hi.Y + max a.Y c.Y,Z:=b.Hi.Z + max a.Z c.Z} : qw)}
def movB (v : qw) (b : qh) : qh:={Lo:=({X:=b.Lo.X + v.X,Y:=b.Lo.Y + v.Y,Z:=b.Lo.Z + v.Z} : qw),Hi:=({X:=b.Hi.X + v.X,Y:=b.Hi.Y + v.Y,Z:=b.Hi.Z + v.Z} : qw)}
def onL (a c p : qw) : Prop:=(min a.X c.X≤p.X∧p.X≤max a.X c.X)∧(min a.Y c.Y≤p.Y∧p.Y≤max a.Y c.Y)∧(min a.Z c.Z≤p.Z∧p.Z≤max a.Z c.Z)
theorem qj0 {l h m n x : Int} (f : l < h) (c : m≤n) : (l + m≤x∧x < h + n)↔∃ t,(m≤t∧t≤n)∧l + t≤x∧x < h + t:=by
  constructor
  · rintro ⟨d,a⟩;by_cases b : n≤x - l
    · exact ⟨n,q6,q6,q6⟩
    · exact ⟨x - l,q6,q6,q6⟩
  · rintro ⟨t,d,a,b⟩;omega
theorem qma {a c : qw} {b : qh} (hb : ltB b) {x y z : Int} : inB (swp a c b) x y z↔∃ p,onL a c p∧inB (movB p b) x y z:=by
  obtain ⟨v,s,n⟩:=hb;have j:=qj0 (x:=x) v (show min a.X c.X≤max a.X c.X by omega);have l:=qj0 (x:=y) s (show min a.Y c.Y≤max a.Y c.Y by omega);have k:=qj0 (x:=z) n (show min a.Z c.Z≤max a.Z c.Z by omega);constructor
  · rintro ⟨q,r,u⟩;obtain ⟨t,d,h⟩:=j.1 q;obtain ⟨o,p2,f⟩:=l.1 r;obtain ⟨m,p3,g⟩:=k.1 u;exact ⟨⟨t,o,m⟩,⟨d,p2,p3⟩,h,f,g⟩
  · rintro ⟨p,⟨d,p2,p3⟩,h,f,g⟩;exact ⟨j.2 ⟨_,d,h⟩,l.2 ⟨_,p2,f⟩,k.2 ⟨_,p3,g⟩⟩
theorem qm5 {l : List qh} {f : qh→qh} {x y z : Int} : hasB (l.map f) x y z↔∃ b∈l,inB (f b) x y z:=by
  constructor
  · rintro ⟨c,a,h⟩;obtain ⟨b,hb,rfl⟩:=List.mem_map.1 a;exact ⟨b,hb,h⟩
  · rintro ⟨b,hb,h⟩;exact ⟨_,List.mem_map.2 ⟨b,hb,rfl⟩,h⟩
theorem quw {a c : qw} {l : List qh} (g : ∀ b∈l,ltB b) {x y z : Int} : hasB (l.map (swp a c)) x y z↔∃ p,onL a c p∧hasB (l.map (movB p)) x y z:=by
  simp only [qm5];constructor
  · rintro ⟨b,hb,h⟩;obtain ⟨p,f,d⟩:=(qma (g b hb)).1 h;exact ⟨p,f,b,hb,d⟩
  · rintro ⟨p,f,b,hb,d⟩;exact ⟨b,hb,(qma (g b hb)).2 ⟨p,f,d⟩⟩
theorem quu {v : qw} {l : List qh} {x y z : Int} : hasB (l.map (movB v)) x y z↔hasB l (x - v.X) (y - v.Y) (z - v.Z):=by
  rw [qm5];constructor
  · rintro ⟨b,hb,d,a,c⟩;exact ⟨b,hb,by simp only [movB] at d a c;omega⟩
  · rintro ⟨b,hb,d,a,c⟩;exact ⟨b,hb,by simp only [inB,movB];omega⟩
end Go.Sh
namespace Go.Sh
open Go Go.Am
end Go.Sh
namespace Go.Sh
open Go Go.Am
def Ax (a c : qw) : Prop:=(a.X = c.X∧a.Y = c.Y)∨(a.X = c.X∧a.Z = c.Z)∨(a.Y = c.Y∧a.Z = c.Z)
instance (a c : qw) : Decidable (Ax a c):=by unfold Ax;infer_instance
def LOk (l : K3) : Prop:=Ax l.From l.To∧InV l.From (-1000000)∧InV l.To (-1000000)
instance (l : K3) : Decidable (LOk l):=by unfold LOk;infer_instance
def TOk (t : Qr) : Prop:=(t.Lines.length≤2000∧t.Marks.length≤2000∧FOk t.End.Frame)∧(∀ l∈t.Lines,LOk l)∧∀ m∈t.Marks,FOk m.Frame
instance (t : Qr) : Decidable (TOk t):=by unfold TOk;infer_instance
theorem q15r (v : qw) : qcb v = some (decide (InV v (-1000000))):=qd0 v (-1000000)
theorem q15q (l : K3) : loop (q1l l) (0,0) = some ((if w64 (l.To.X - l.From.X) = 0 then 1 else 0) + (if w64 (l.To.Y - l.From.Y) = 0 then 1 else 0) + (if w64 (l.To.Z - l.From.Z) = 0 then 1 else 0)):=by
  have b : w64 (0 + 1) = 1:=by decide
  have c : w64 (1 + 1) = 2:=by decide
  have a : w64 (2 + 1) = 3:=by decide
  have s : ∀ n k v,idxA 3 [w64 (l.To.X - l.From.X),w64 (l.To.Y - l.From.Y),w64 (l.To.Z - l.From.Z)] k = some v→k < 3→q1l l (n,k) = some (.inl (if v = 0 then w64 (n + 1) else n,w64 (k + 1))):=by
    intro n k v o f;unfold q1l;simp only [Qc f,Q3,o,qk];by_cases h : v = 0
    · have e : (v == 0) = true:=by simpa using h
      rw [e,qr h];rfl
    · have e : (v == 0) = false:=by simpa using h
      rw [e,qp h];rfl
  have m : ∀ n,q1l l (n,0) = some (.inl (if w64 (l.To.X - l.From.X) = 0 then w64 (n + 1) else n,1)):=fun n=>by rw [s n 0 _ rfl q6,b]
  have d : ∀ n,q1l l (n,1) = some (.inl (if w64 (l.To.Y - l.From.Y) = 0 then w64 (n + 1) else n,2)):=fun n=>by rw [s n 1 _ rfl q6,c]
  have j : ∀ n,q1l l (n,2) = some (.inl (if w64 (l.To.Z - l.From.Z) = 0 then w64 (n + 1) else n,3)):=fun n=>by rw [s n 2 _ rfl q6,a]
  have g : ∀ n,q1l l (n,3) = some (.inr n):=fun n=>rfl;rw [Kw (m 0),Kw (d _),Kw (j _),Kg (g _)];split <;> split <;> split <;> decide
theorem qvu (l : K3) : q97 l = some (!decide (LOk l)):=by
  unfold q97;simp only [q15q,q15r,qk];by_cases f : InV l.From (-1000000)
  · by_cases g : InV l.To (-1000000)
    · have hb : ∀ {a b : Int},-1000000≤a→a≤1000000→-1000000≤b→b≤1000000→(w64 (a - b) = 0↔b = a):=fun f g j k=>by rw [Qg q6];omega
      have c:=f;have d:=g;unfold InV at c d;simp only [hb d.1 d.2.1 c.1 c.2.1,hb d.2.2.1 d.2.2.2.1 c.2.2.1 c.2.2.2.1,hb d.2.2.2.2.1 d.2.2.2.2.2 c.2.2.2.2.1 c.2.2.2.2.2];simp only [f,g,decide_true,Bool.not_true,Q0,qk];congr 1;rw [Bool.eq_iff_iff];simp only [decide_eq_true_eq,Bool.not_eq_true',decide_eq_false_iff_not,LOk,Ax,f,g,and_true];split <;> split <;> split <;> simp_all
    · have : ¬ LOk l:=fun h=>g h.2.2;simp [f,g,this]
  · have : ¬ LOk l:=fun h=>f h.2.1;simp [f,this]
theorem qw8 (m : Yf) : q98 m = some (!decide (FOk m.Frame)):=by
  unfold q98;rw [q2u];by_cases h : FOk m.Frame <;> simp [h]
theorem qmq (l : List K3) (d : l.length≤1000000) (p : K3→Option Bool) (c : K3→Bool) (h : ∀ v,p v = some (c v)) : q7h l p = some (l.any c):=by
  unfold q7h qee
  rcases Zh l c (fun k _=>(k : Int)) () (q7j l p) (fun k a=>by
    simp only [q7j,dlt a,Q3,Qv a,qk,w64s a d,h]
    cases c l[k] <;> simp) (by simp only [q7j,dnl,Q0]) with ⟨h1,h2⟩ | ⟨k,a,hc,_,h2⟩
  · rw [h2];have : l.any c = false:=by rw [List.any_eq_false];exact fun v b=>by rw [h1 v b];simp
    rw [this];rfl
  · rw [h2];have : l.any c = true:=List.any_eq_true.2 ⟨_,Kp a,hc⟩;simp only [qk];rw [this,Qc q6]
theorem qw1 (l : List Yf) (d : l.length≤1000000) (p : Yf→Option Bool) (c : Yf→Bool) (h : ∀ v,p v = some (c v)) : qao l p = some (l.any c):=by
  unfold qao qef
  rcases Zh l c (fun k _=>(k : Int)) () (q7k l p) (fun k a=>by
    simp only [q7k,dlt a,Q3,Qv a,qk,w64s a d,h]
    cases c l[k] <;> simp) (by simp only [q7k,dnl,Q0]) with ⟨h1,h2⟩ | ⟨k,a,hc,_,h2⟩
  · rw [h2];have : l.any c = false:=by rw [List.any_eq_false];exact fun v b=>by rw [h1 v b];simp
    rw [this];rfl
  · rw [h2];have : l.any c = true:=List.any_eq_true.2 ⟨_,Kp a,hc⟩;simp only [qk];rw [this,Qc q6]
theorem qqj (t : Qr) (n : t.Lines.length≤1000000) (j : t.Marks.length≤1000000) : q96 t = some (if TOk t then 0 else 8):=by
  unfold q96;rw [qmq t.Lines n _ _ qvu,qw1 t.Marks j _ _ qw8,q2u];simp only [qk,qhi (show (8 : Int)≠0 by omega)]
  have f : (t.Lines.any fun l=>!decide (LOk l)) = decide (¬ ∀ l∈t.Lines,LOk l):=by
    rw [Bool.eq_iff_iff];simp
  have g : (t.Marks.any fun m=>!decide (FOk m.Frame)) = decide (¬ ∀ m∈t.Marks,FOk m.Frame):=by
    rw [Bool.eq_iff_iff];simp
  have k : decide (max (t.Lines.length : Int) (t.Marks.length : Int) > 2000) = decide (¬ (t.Lines.length≤2000∧t.Marks.length≤2000)):=by
    rw [decide_eq_decide];omega
  rw [f,g,k];by_cases a : ∀ l∈t.Lines,LOk l
  · by_cases b : ∀ m∈t.Marks,FOk m.Frame
    · by_cases d : FOk t.End.Frame
      · by_cases c : t.Lines.length≤2000∧t.Marks.length≤2000
        · have : TOk t:=⟨⟨c.1,c.2,d⟩,a,b⟩
          rw [Q9 (not_not_intro a),Q9 (not_not_intro b),Q9 (not_not_intro d),Q9 (not_not_intro c),qr this];rfl
        · have : ¬ TOk t:=fun h=>c ⟨h.1.1,h.1.2.1⟩;rw [Q9 (not_not_intro a),Q9 (not_not_intro b),Q9 (not_not_intro d),Qc c,qp this];rfl
      · have : ¬ TOk t:=fun h=>d h.1.2.2;rw [Q9 (not_not_intro a),Q9 (not_not_intro b),Qc d,qp this];rfl
    · have : ¬ TOk t:=fun h=>b h.2.2;rw [Q9 (not_not_intro a),Qc b,qp this];rfl
  · have : ¬ TOk t:=fun h=>a h.2.1;rw [Qc a,qp this];rfl
theorem qqo (t : Qr) (b : t.Lines.length≤1000000) (c : t.Marks.length≤1000000) : ∃ n,q5k t = some (n,if TOk t then 0 else 8):=by
  unfold q5k;rw [qqj t b c];simp only [qk];by_cases h : TOk t
  · simp only [qr h,show ((0 : Int) != 0) = false from rfl,Q0]
    have:=qlh t.Lines b (fun n (l : K3)=>w64 (n + (w64 ((w64 ((max (w64 (l.To.X - l.From.X)) (w64 (0 - (w64 (l.To.X - l.From.X))))) + (max (w64 (l.To.Y - l.From.Y)) (w64 (0 - (w64 (l.To.Y - l.From.Y))))))) + (max (w64 (l.To.Z - l.From.Z)) (w64 (0 - (w64 (l.To.Z - l.From.Z))))))))) (fun x=>x) (q93 t) (fun k a s=>by
      simp only [q93,q99,dlt a,Q3,Qv a,qk,w64s a b]) (fun s=>by simp only [q93,dnl,Q0]) 0
    rw [this];exact ⟨_,rfl⟩
  · simp only [qp h];exact ⟨0,rfl⟩
theorem qfl (a b : Int) : (a != b) = decide (¬ a = b):=by
  by_cases h : a = b <;> simp [h]
theorem qyq (t : Qr) (p : t.Lines.length≤1000000) (n : t.Marks.length≤1000000) : qad t = some (if TOk t then 0 else 8):=by
  unfold qad;rw [qhw];simp only [qk,qhi (show (8 : Int)≠0 by omega)];by_cases c : t.Lines.length≤2000∧t.Marks.length≤2000
  · by_cases b : FOk t.End.Frame
    · have d : decide ((t.Lines.length : Int) > 2000) = false:=Q9 q6;have f : decide ((t.Marks.length : Int) > 2000) = false:=Q9 q6;rw [d,f,Q9 (not_not_intro b)];simp only [Q0,qk]
      rcases Zh t.Lines (fun l=>!decide (LOk l)) (fun k _=>(8 : Int)) () (q6u t) (fun k a=>by
        have s : w64 (0 + 1) = 1:=by decide
        have u : w64 (1 + 1) = 2:=by decide
        have q : w64 (2 + 1) = 3:=by decide
        simp only [q6u,dlt a,Q3,Qv a,qk,w64s a p,qcd];generalize t.Lines[k] = l
        by_cases z : l.From.X = l.To.X <;> by_cases x : l.From.Y = l.To.Y <;> by_cases r : l.From.Z = l.To.Z <;> by_cases v : InV l.From (-1000000) <;> by_cases j : InV l.To (-1000000) <;>
          simp [qfl,z,x,r,v,j,show w64 1 = 1 by decide,show w64 2 = 2 by decide,show w64 3 = 3 by decide,LOk,Ax]) (by simp only [q6u,dnl,Q0]) with ⟨a1,a2⟩ | ⟨k,a,hc,_,a2⟩
      · rw [a2];simp only [qk]
        rcases Zh t.Marks (fun m=>!decide (FOk m.Frame)) (fun k _=>(8 : Int)) () (q6v t) (fun k a=>by
          simp only [q6v,dlt a,Q3,Qv a,qk,w64s a n,qhw,qhi (show (8 : Int)≠0 by omega)]
          by_cases w : FOk (t.Marks[k]).Frame <;> simp [w]) (by simp only [q6v,dnl,Q0]) with ⟨b1,b2⟩ | ⟨k,a,hc,_,b2⟩
        · rw [b2];have : TOk t:=⟨⟨c.1,c.2,b⟩,fun l o=>by simpa using a1 l o,fun m y=>by simpa using b1 m y⟩
          rw [qr this];rfl
        · rw [b2];have : ¬ TOk t:=fun h=>by simp [h.2.2 _ (Kp a)] at hc
          rw [qp this];rfl
      · rw [a2];have : ¬ TOk t:=fun h=>by simp [h.2.1 _ (Kp a)] at hc
        rw [qp this];rfl
    · have : ¬ TOk t:=fun h=>b h.1.2.2;have d : decide ((t.Lines.length : Int) > 2000) = false:=Q9 q6;have f : decide ((t.Marks.length : Int) > 2000) = false:=Q9 q6;rw [d,f,Qc b,qp this];rfl
  · have : ¬ TOk t:=fun h=>c ⟨h.1.1,h.1.2.1⟩;rw [qp this];by_cases g : (t.Lines.length : Int) > 2000
    · rw [Qc g];rfl
    · rw [Q9 g,Qc (by omega : (t.Marks.length : Int) > 2000)];rfl
noncomputable def badB : List (List qh)→Int
  | []=>0
  | b::r=>if Qy b≠0 then Qy b else badB r
theorem qfi : ∀ {bs : List (List qh)},(∀ b∈bs,Qy b = 0)→badB bs = 0
  | [],_=>rfl
  | b::r,h=>by rw [badB,qp (by simp [h b qg])];exact qfi fun c a=>h c (by simp [a])
theorem qjw : ∀ {bs : List (List qh)},badB bs = 0→∀ b∈bs,Qy b = 0
  | [],_,b,hb=>by cases hb
  | a::r,h,b,hb=>by
    rw [badB] at h
    split at h
    · rename_i c;exact absurd h c
    · rename_i c
      rcases List.mem_cons.1 hb with rfl | hb
      · exact Classical.not_not.1 c
      · exact qjw h b hb
theorem qjv : ∀ {bs : List (List qh)} {k : Nat} (b : k < bs.length),Qy bs[k]≠0→(∀ j (c : j < k),Qy (bs[j]'(q6)) = 0)→badB bs = Qy bs[k]
  | a::r,0,b,h,_=>by rw [badB];exact qr h
  | a::r,k + 1,b,h,hb=>by
    rw [badB,qp (by simpa using hb 0 q6)]
    exact qjv (bs:=r) (by simpa using b) h fun j c=>by simpa using hb (j + 1) q6
theorem qs1 {γ : Type} (bs : List (List qh)) (o : bs.length≤1000000) (a : Int→γ) (f : Int→Option (Int ⊕ (Unit ⊕ γ)))
    (hs : ∀ k (h : k < bs.length),f (k : Int) = some (if Qy bs[k]≠0 then .inr (.inr (a (Qy bs[k]))) else .inl ((k + 1 : Nat) : Int))) (hd : f (bs.length : Int) = some (.inr (.inl ()))) :
    loop f 0 = some (if badB bs = 0 then .inl () else .inr (a (badB bs))):=by
  rcases Zh bs (fun b=>decide (Qy b≠0)) (fun k h=>a (Qy bs[k])) () f (fun k h=>by rw [hs k h];simp) hd with ⟨n,d⟩ | ⟨k,l,g,hb,d⟩
  · rw [d,qr (qfi fun b hb=>by simpa using n b hb)]
  · have c : Qy bs[k]≠0:=by simpa using g
    have:=qjv l c fun j m=>by simpa using hb j m
    rw [d,qp (by rw [this];exact c),this]
noncomputable def chkS (t : Qr) (bs : List (List qh)) : Int:=
  if ¬ TOk t then 8 else if 20 < bs.length then 4 else if badB bs≠0 then badB bs else if 0 < t.Lines.length∧bs.length = 0 then 6 else if ∃ l∈t.Lines,l.Depth < 0 then 2 else 0
theorem q100 (t : Qr) (bs : List (List qh)) (o : t.Lines.length≤1000000) (q : t.Marks.length≤1000000) (j : bs.length≤1000000) : qc2 t bs = some (chkS t bs):=by
  obtain ⟨n,r⟩:=qqo t o q;unfold qc2 chkS;rw [r];simp only [qk];by_cases a : ¬ TOk t
  · rw [qp a,qr a];rfl
  replace a:=Classical.not_not.1 a;rw [qr a,qp (not_not_intro a),show ((0 : Int) != 0) = false from rfl,Q0];by_cases m : 20 < bs.length
  · rw [Qc (by omega : (bs.length : Int) > 20),Q3,qr m]
  rw [Q9 (by omega : ¬ (bs.length : Int) > 20),Q0,qp m]
  rw [qs1 bs j (fun e=>e) (q91 bs) (fun k d=>by
    simp only [q91,dlt d,Q3,Qv d,qk,w64s d j,qbm]
    by_cases h : Qy bs[k] = 0 <;> simp [qfl,h]) (by simp only [q91,dnl,Q0])]
  by_cases c : badB bs = 0
  · rw [qr c,qp (not_not_intro c)];simp only [qk];rw [qmq t.Lines o (fun p=>qc3 p) (fun v=>decide (v.Depth < 0)) (fun v=>rfl)];by_cases g : 0 < t.Lines.length
    · by_cases f : bs.length = 0
      · rw [Qc (by omega : (t.Lines.length : Int) > 0),f,qr ⟨g,rfl⟩];rfl
      · have e : ((bs.length : Int) == 0) = false:=by simpa using f
        rw [Qc (by omega : (t.Lines.length : Int) > 0),e,qp (fun h=>f h.2)];simp only [Q3,Q0,qk];by_cases b : ∃ l∈t.Lines,l.Depth < 0
        · rw [qr b,show (t.Lines.any fun v=>decide (v.Depth < 0)) = true by simpa using b];rfl
        · rw [qp b,show (t.Lines.any fun v=>decide (v.Depth < 0)) = false by simpa using b];rfl
    · have e : t.Lines = []:=List.length_eq_zero_iff.1 q6;rw [Q9 (by omega : ¬ (t.Lines.length : Int) > 0),qp (fun h=>g h.1),e];simp
  · rw [qp c,qr c];rfl
end Go.Sh
namespace Go.Sh
open Go Go.Am
noncomputable def barS (l : K3) (b : List qh) : List qh × Int:=if ∀ x∈b,vB (swp l.From l.To x) then mkB (b.map (swp l.From l.To)) else ([],16)
theorem qox (v : qw) : qc4 v = some (decide (InV v (-1000000))):=qd0 v (-1000000)
theorem q163 {b : qh} (h : vB b) : ltB b:=h.1
theorem qqv {a c : qw} {b : qh} (hb : vB b) : vB (swp a c b)↔InV (swp a c b).Lo (-1000000)∧InV (swp a c b).Hi (-1000000):=by
  unfold vB at hb;unfold vB InV swp;simp only;omega
theorem qqc {l : K3} {b : List qh} (m : LOk l) (n : b.length≤400) (hb : ∀ x∈b,vB x) : q90 l b = some (barS l b):=by
  obtain ⟨_,g,h⟩:=m;unfold InV at g h
  have w : ∀ k (a : k < b.length),({X:=w64 (b[k].Lo.X + (min l.From.X l.To.X)),Y:=w64 (b[k].Lo.Y + (min l.From.Y l.To.Y)),Z:=w64 (b[k].Lo.Z + (min l.From.Z l.To.Z))} : qw) = (swp l.From l.To b[k]).Lo∧({X:=w64 (b[k].Hi.X + (max l.From.X l.To.X)),Y:=w64 (b[k].Hi.Y + (max l.From.Y l.To.Y)),Z:=w64 (b[k].Hi.Z + (max l.From.Z l.To.Z))} : qw) = (swp l.From l.To b[k]).Hi:=by
    intro k a;have j:=hb _ (Kp a);unfold vB at j;refine ⟨?_,?_⟩ <;> (unfold swp;simp only;rw [Qg q6,Qg q6,Qg q6])
  unfold q90 barS
  rw [qny n (fun x=>vB (swp l.From l.To x)) (swp l.From l.To) ([],16) (q5j b l) (fun k a o f c=>by
      obtain ⟨d,p2⟩:=(qqv (hb _ (Kp a))).1 c;simp only [q5j,dlt a,Q3,Qv a,qk,(w k a).1,(w k a).2,qox,Qc d,Qc p2,Bool.not_true,Q0,w64s a q6];rw [Y7 (by simp;omega)]
      rfl) (fun k a o f c=>by
      rw [qqv (hb _ (Kp a))] at c;simp only [q5j,dlt a,Q3,Qv a,qk,(w k a).1,(w k a).2,qox];by_cases d : InV (swp l.From l.To b[k]).Lo (-1000000)
      · have p2 : ¬ InV (swp l.From l.To b[k]).Hi (-1000000):=fun p2=>c ⟨d,p2⟩;rw [Qc d,Q9 p2];rfl
      · rw [Q9 d];rfl) (fun o=>by simp only [q5j,dnl,Q0])]
  rw [qk];by_cases c : ∀ x∈b,vB (swp l.From l.To x)
  · rw [qr c,qr c];simp only [qpd,qk]
  · rw [qp c,qp c]
def nL (a c : qw) : Nat:=(c.X - a.X).natAbs + (c.Y - a.Y).natAbs + (c.Z - a.Z).natAbs
theorem qwd (a c : qw) : (nL a c : Int) = max (c.X - a.X) (a.X - c.X) + max (c.Y - a.Y) (a.Y - c.Y) + max (c.Z - a.Z) (a.Z - c.Z):=by
  unfold nL;omega
theorem qj4 {p q : qw} : p = q↔p.X = q.X∧p.Y = q.Y∧p.Z = q.Z:=by
  cases p;cases q;simp
end Go.Sh
namespace Go.Sh
open Go Go.Am
section
variable {α β : Type}
noncomputable def fstE (g : α→β × Int) : List α→Int
  | []=>0
  | a::r=>if (g a).2≠0 then (g a).2 else fstE g r
theorem qgk {g : α→β × Int} : ∀ {l : List α},fstE g l = 0↔∀ a∈l,(g a).2 = 0
  | []=>by simp [fstE]
  | a::r=>by
    rw [fstE]
    by_cases h : (g a).2 = 0
    · rw [qp (by simp [h]),qgk];simp [h]
    · rw [qr h];simp [h]
theorem qlx {g : α→β × Int} {P : Int→Prop} : ∀ {l : List α},(∀ a∈l,P (g a).2)→P 0→P (fstE g l)
  | [],_,h0=>h0
  | a::r,h,h0=>by
    rw [fstE]
    split
    · exact h a qg
    · exact qlx (fun b hb=>h b (by simp [hb])) h0
theorem qul {src : List α} {g : α→β × Int} {f : Int × List β→Option ((Int × List β) ⊕ (List β ⊕ (List β × Int)))}
    (hs : ∀ k (j : k < src.length) (o : List β),o.length = k→f ((k : Int),o) = some (if (g src[k]).2≠0 then .inr (.inr ([],(g src[k]).2)) else .inl (((k + 1 : Nat) : Int),o ++ [(g src[k]).1])))
    (hd : ∀ o,f ((src.length : Int),o) = some (.inr (.inl o))) : loop f (0,[]) = some (if fstE g src = 0 then .inl (src.map fun a=>(g a).1) else .inr ([],fstE g src)):=by
  have key : ∀ (r pre : List α),src = pre ++ r→loop f ((pre.length : Int),pre.map fun a=>(g a).1) = some (if fstE g r = 0 then .inl (src.map fun a=>(g a).1) else .inr ([],fstE g r)):=by
    intro r
    induction r with
    | nil=>
      intro pre h;rw [List.append_nil] at h;subst h;rw [Kg (hd _)];rfl
    | cons a r ih=>
      intro pre h;have j : pre.length < src.length:=by rw [h];simp
      have l : src[pre.length] = a:=by simp [h]
      have c:=hs pre.length j (pre.map fun a=>(g a).1) qg;rw [l] at c;by_cases b : (g a).2 = 0
      · rw [qp (by simp [b])] at c;have d : fstE g (a::r) = fstE g r:=qp (by simp [b]);rw [Kw c,d];have:=ih (pre ++ [a]) (by rw [h];simp);simpa using this
      · rw [qr b] at c;have d : fstE g (a::r) = (g a).2:=qr b;rw [Kg c,d,qp b]
  exact key src [] rfl
end
noncomputable def Zo (bs : List (List qh)) (l : K3) : List qh:=(idx bs (min l.Depth ((bs.length : Int) - 1))).getD []
noncomputable def barB (bs : List (List qh)) (l : K3) : List qh × Int:=barS l (Zo bs l)
noncomputable def Kj (t : Qr) (bs : List (List qh)) : List (List qh) × Int:=
  if chkS t bs≠0 then ([],chkS t bs) else if fstE (barB bs) t.Lines = 0 then (t.Lines.map fun l=>(barB bs l).1,0) else ([],fstE (barB bs) t.Lines)
structure Ze (t : Qr) (bs : List (List qh)) : Prop where
  tok : TOk t
  few : bs.length≤20
  brush : ∀ b∈bs,Qy b = 0
  some' : t.Lines≠[]→bs≠[]
  depth : ∀ l∈t.Lines,0≤l.Depth
theorem q9j {t : Qr} {bs : List (List qh)} : chkS t bs = 0↔Ze t bs:=by
  unfold chkS;constructor
  · intro h;split at h
    · cases h
    rename_i f;split at h
    · cases h
    rename_i k;split at h
    · rename_i a;exact absurd h a
    rename_i a;split at h
    · cases h
    rename_i c;split at h
    · cases h
    rename_i d;refine ⟨Classical.not_not.1 f,q6,qjw (Classical.not_not.1 a),fun b j=>c ⟨List.length_pos_iff.2 b,by simp [j]⟩,fun l b=>?_⟩;exact Int.not_lt.1 fun g=>d ⟨l,b,g⟩
  · rintro ⟨f,k,a,c,d⟩;rw [qp (not_not_intro f),qp q6,qp (not_not_intro (qfi a)),qp (fun h=>c (List.length_pos_iff.1 h.1) (List.length_eq_zero_iff.1 h.2)),qp (fun ⟨l,b,g⟩=>by have:=d l b;omega)]
theorem qfn {t : Qr} {bs : List (List qh)} (h : Ze t bs) {l : K3} (b : l∈t.Lines) : idx bs (min l.Depth (w64 ((bs.length : Int) - 1))) = some (Zo bs l)∧Zo bs l∈bs:=by
  have f:=h.few;have c:=h.depth l b;have d : bs.length≠0:=fun e=>h.some' (List.ne_nil_of_mem b) (List.length_eq_zero_iff.1 e);rw [Qg q6];have a : (min l.Depth ((bs.length : Int) - 1)).toNat < bs.length:=by omega
  have e:=Zy (xs:=bs) (i:=min l.Depth ((bs.length : Int) - 1)) (k:=(min l.Depth ((bs.length : Int) - 1)).toNat) q6 a;unfold Zo;rw [e];exact ⟨rfl,Kp a⟩
theorem qk1 (t : Qr) (bs : List (List qh)) (l : t.Lines.length≤1000000) (q : t.Marks.length≤1000000) (m : bs.length≤1000000) : q8w t bs = some (Kj t bs):=by
  unfold q8w Kj;rw [q100 t bs l q m];simp only [qk];by_cases b : chkS t bs = 0
  · have ok:=q9j.1 b;rw [qp (not_not_intro b),b,show ((0 : Int) != 0) = false from rfl,Q0]
    rw [qul (src:=t.Lines) (g:=barB bs) (f:=q8x t bs) (fun k c o r=>by
      have j:=Kp c;obtain ⟨n,p⟩:=qfn ok j;obtain ⟨h,d,_⟩:=Y8.1 (ok.brush _ p);simp only [q8x,dlt c,Q3,Qv c,qk,n,qqc (ok.tok.2.1 _ j) h d,w64s c l];have e : barS t.Lines[k] (Zo bs t.Lines[k]) = barB bs t.Lines[k]:=rfl;rw [e];by_cases a : (barB bs t.Lines[k]).2 = 0
      · rw [qp (by simp [a]),a,show ((0 : Int) != 0) = false from rfl,Q0,Y7 (by simp;omega)];rfl
      · rw [qr a,show ((barB bs t.Lines[k]).2 != 0) = true by simpa using a]
        rfl) (fun o=>by simp only [q8x,dnl,Q0])]
    by_cases a : fstE (barB bs) t.Lines = 0
    · rw [qr a,qr a];rfl
    · rw [qp a,qp a];rfl
  · rw [qr b,show (chkS t bs != 0) = true by simpa using b];rfl
structure Small (t : Qr) (bs : List (List qh)) : Prop where
  lines : t.Lines.length≤12
  marks : t.Marks.length≤50
  many : bs.length≤25
  near : ∀ l∈t.Lines,(InV l.From (-2000000)∧InV l.To (-2000000))∧nL l.From l.To≤90
  few : ∀ b∈bs,b.length≤5
end Go.Sh
namespace Go.Sh
open Go Go.Am
theorem qjz {l : K3} {b : List qh} (h : (barS l b).2 = 0) (k : b.length≤400) : (∀ x∈b,vB (swp l.From l.To x))∧(barS l b).1 = mrgB 2 (b.map (swp l.From l.To)) []∧Qy (barS l b).1 = 0∧∀ x y z,hasB (barS l b).1 x y z↔hasB (b.map (swp l.From l.To)) x y z:=by
  unfold barS at h ⊢;by_cases a : ∀ x∈b,vB (swp l.From l.To x)
  · rw [qr a] at h ⊢;have d : ∀ y∈b.map (swp l.From l.To),vB y:=by intro y g;obtain ⟨x,j,rfl⟩:=List.mem_map.1 g;exact a x j
    unfold mkB at h ⊢;rw [qp (by simp;omega),qr d] at h ⊢;by_cases c : 400 < (mrgB 2 (b.map (swp l.From l.To)) []).length
    · rw [qr c] at h;simp at h
    · rw [qp c];have f:=q6j 2 (p:=b.map (swp l.From l.To)) (q:=[]) (by simp;omega);exact ⟨a,rfl,Y8.2 ⟨by simpa using c,f.vB (InB.mrg (by simp;omega) (qf2 d) .nil),f⟩,fun x y z=>qgo (by simp;omega) x y z⟩
  · rw [qp a] at h;simp at h
theorem qrt (l : K3) (b : List qh) (h : b.length≤400) : (barS l b).2 = 0∨((barS l b).1 = []∧((barS l b).2 = 4∨(barS l b).2 = 16)):=by
  unfold barS;by_cases a : ∀ x∈b,vB (swp l.From l.To x)
  · have f : ∀ y∈b.map (swp l.From l.To),vB y:=by intro y d;obtain ⟨x,g,rfl⟩:=List.mem_map.1 d;exact a x g
    rw [qr a];unfold mkB;rw [qp (by simp;omega),qr f];by_cases c : 400 < (mrgB 2 (b.map (swp l.From l.To)) []).length
    · rw [qr c];exact .inr ⟨rfl,.inl rfl⟩
    · rw [qp c];exact .inl rfl
  · rw [qp a];exact .inr ⟨rfl,.inr rfl⟩
theorem qfo {t : Qr} {bs : List (List qh)} (h : Ze t bs) {l : K3} (a : l∈t.Lines) : Qy (Zo bs l) = 0:=h.brush _ (qfn h a).2
theorem qcn {t : Qr} {bs : List (List qh)} (h : (Kj t bs).2 = 0) : Ze t bs∧(∀ l∈t.Lines,(barB bs l).2 = 0)∧(Kj t bs).1 = t.Lines.map fun l=>(barB bs l).1:=by
  unfold Kj at h ⊢;by_cases a : chkS t bs = 0
  · rw [qp (not_not_intro a)] at h ⊢;by_cases b : fstE (barB bs) t.Lines = 0
    · rw [qr b];exact ⟨q9j.1 a,qgk.1 b,rfl⟩
    · rw [qp b] at h;exact absurd h b
  · rw [qr a] at h;exact absurd h a
theorem qcm {t : Qr} {bs : List (List qh)} : ∀ b∈(Kj t bs).1,Qy b = 0:=by
  by_cases h : (Kj t bs).2 = 0
  · obtain ⟨j,f,g⟩:=qcn h;rw [g];intro b hb;obtain ⟨l,d,rfl⟩:=List.mem_map.1 hb;exact (qjz (f l d) (Y8.1 (qfo j d)).1).2.2.1
  · have : (Kj t bs).1 = []:=by
      unfold Kj at h ⊢;by_cases c : chkS t bs = 0
      · rw [qp (not_not_intro c)] at h ⊢;by_cases a : fstE (barB bs) t.Lines = 0
        · rw [qr a] at h;exact absurd rfl h
        · rw [qp a]
      · rw [qr c]
    rw [this];intro b hb;cases hb
def q24 (l : K3) : Prop:=(InV l.From (-2000000)∧InV l.To (-2000000))∧(max (max (max (max (max (l.From.X - l.To.X) (l.To.X - l.From.X)) (l.From.Y - l.To.Y)) (l.To.Y - l.From.Y)) (l.From.Z - l.To.Z)) (l.To.Z - l.From.Z))≤30
instance (l : K3) : Decidable (q24 l):=by unfold q24;infer_instance
theorem qus (t : Qr) (bs : List (List qh)) : q70 t bs = some true∨(q70 t bs = some false∧Small t bs):=by
  unfold q70;by_cases p : 12 < t.Lines.length
  · rw [Qc (by omega : (t.Lines.length : Int) > 12)];exact .inl rfl
  by_cases o : 50 < t.Marks.length
  · rw [Q9 (by omega : ¬ (t.Lines.length : Int) > 12),Qc (by omega : (t.Marks.length : Int) > 50)];exact .inl rfl
  by_cases n : 25 < bs.length
  · rw [Q9 (by omega : ¬ (t.Lines.length : Int) > 12),Q9 (by omega : ¬ (t.Marks.length : Int) > 50),Qc (by omega : (bs.length : Int) > 25)];exact .inl rfl
  rw [Q9 (by omega : ¬ (t.Lines.length : Int) > 12),Q9 (by omega : ¬ (t.Marks.length : Int) > 50),Q9 (by omega : ¬ (bs.length : Int) > 25)];simp only [Q0,qk]
  rcases Zh t.Lines (fun l=>!decide (q24 l)) (fun k _=>true) () (q71 t) (fun k a=>by
    simp only [q71,dlt a,Q3,Qv a,qk,w64s a (show t.Lines.length≤1000000 by omega),qcd];generalize t.Lines[k] = l;by_cases c : InV l.From (-2000000)
    · by_cases d : InV l.To (-2000000)
      · have g:=c;have j:=d;unfold InV at g j;rw [Qg q6,Qg q6,Qg q6,Qg q6,Qg q6,Qg q6]
        have e : decide (max (max (max (max (max (l.From.X - l.To.X) (l.To.X - l.From.X)) (l.From.Y - l.To.Y)) (l.To.Y - l.From.Y)) (l.From.Z - l.To.Z)) (l.To.Z - l.From.Z) > 30) = !decide (q24 l):=by
          rw [Bool.eq_iff_iff];simp only [decide_eq_true_eq,Bool.not_eq_true',decide_eq_false_iff_not,q24,c,d,true_and,and_true];omega
        rw [e,Qc c,Qc d];cases decide (q24 l) <;> rfl
      · have e : decide (q24 l) = false:=Q9 fun h=>d h.1.2;rw [e,Qc c,Q9 d];rfl
    · have e : decide (q24 l) = false:=Q9 fun h=>c h.1.1
      rw [e,Q9 c];rfl) (by simp only [q71,dnl,Q0]) with ⟨a1,a2⟩ | ⟨k,a,hc,_,a2⟩
  rotate_left
  · rw [a2];exact .inl rfl
  rw [a2];simp only [qk]
  rcases Zh bs (fun b=>decide (5 < b.length)) (fun k _=>true) () (q72 bs) (fun k a=>by
    simp only [q72,dlt a,Q3,Qv a,qk,w64s a (show bs.length≤1000000 by omega)];by_cases h : 5 < bs[k].length
    · rw [Qc (by omega : (bs[k].length : Int) > 5)];simp [h]
    · rw [Q9 (by omega : ¬ (bs[k].length : Int) > 5)];simp [h]) (by simp only [q72,dnl,Q0]) with ⟨b1,b2⟩ | ⟨k,a,hc,_,b2⟩
  rotate_left
  · rw [b2];exact .inl rfl
  rw [b2];refine .inr ⟨rfl,q6,q6,q6,fun l m=>?_,fun b hb=>by simpa using b1 b hb⟩;have f : q24 l:=by simpa using a1 l m
  refine ⟨f.1,?_⟩;have:=qwd l.From l.To;have:=f.2;omega
def oneT (l : K3) : Qr:=({Lines:=[l],Marks:=[],End:=({Frame:=({Turn:=0,At:=({X:=0,Y:=0,Z:=0} : qw)} : K0),Drawn:=0} : Z4)} : Qr)
noncomputable def barT (l : K3) (b : List qh) : List qh × Int:=if ¬ TOk (oneT l) then ([],8) else if Qy b≠0 then ([],Qy b) else barS l b
theorem qzw (l : K3) (b : List qh) : qc0 l b = some (barT l b):=by
  obtain ⟨n,g⟩:=qqo (oneT l) (by simp [oneT]) (by simp [oneT]);unfold qc0 barT;rw [show q5k ({Lines:=[l],Marks:=[],End:=({Frame:=({Turn:=0,At:=({X:=0,Y:=0,Z:=0} : qw)} : K0),Drawn:=0} : Z4)} : Qr) = _ from g];simp only [qk];by_cases a : TOk (oneT l)
  · rw [qr a,qp (not_not_intro a),show ((0 : Int) != 0) = false from rfl,Q0];rw [qbm,qk];by_cases c : Qy b = 0
    · have f : LOk l:=a.2.1 l (by simp [oneT]);obtain ⟨hb,d,_⟩:=Y8.1 c;rw [c,qp qz,show ((0 : Int) != 0) = false from rfl,Q0,qqc f hb d];rfl
    · rw [qr c,show (Qy b != 0) = true by simpa using c];rfl
  · rw [qp a,qr a];rfl
end Go.Sh
namespace Go.Sh
open Go Go.Am
noncomputable def Yi : List qh→List (List qh)→List qh × Int
  | o,[]=>(o,0)
  | o,b::r=>if (jB 2 o b).2≠0 then ([],(jB 2 o b).2) else Yi (jB 2 o b).1 r
theorem qme {p q : List qh} (hp : Qy p = 0) (c : Qy q = 0) : (jB 2 p q = ([],4))∨((jB 2 p q).2 = 0∧Qy (jB 2 p q).1 = 0∧∀ x y z,hasB (jB 2 p q).1 x y z↔hasB p x y z∨hasB q x y z):=by
  rcases qvb 2 hp c with h | ⟨d,a,b⟩
  · exact .inl h
  · rw [d];exact .inr ⟨rfl,a,fun x y z=>by rw [b,q4c]⟩
theorem qde : ∀ {l : List (List qh)} {o : List qh},Qy o = 0→(∀ b∈l,Qy b = 0)→Yi o l = ([],4)∨((Yi o l).2 = 0∧Qy (Yi o l).1 = 0∧∀ x y z,hasB (Yi o l).1 x y z↔hasB o x y z∨∃ b∈l,hasB b x y z)
  | [],o,ho,_=>.inr ⟨rfl,ho,fun x y z=>by simp [Yi]⟩
  | b::r,o,ho,hb=>by
    rcases qme ho (hb b qg) with h | ⟨m,k,f⟩
    · left;unfold Yi;rw [h];rfl
    · have e : Yi o (b::r) = Yi (jB 2 o b).1 r:=by rw [Yi,qp (by simp [m])]
      rw [e]
      rcases qde (l:=r) k (fun c a=>hb c (by simp [a])) with g | ⟨d,j,n⟩
      · exact .inl g
      · refine .inr ⟨d,j,fun x y z=>?_⟩
        rw [n,f]
        constructor
        · rintro ((h | h) | ⟨c,a,h⟩)
          · exact .inl h
          · exact .inr ⟨b,qg,h⟩
          · exact .inr ⟨c,by simp [a],h⟩
        · rintro (h | ⟨c,a,h⟩)
          · exact .inl (.inl h)
          · rcases List.mem_cons.1 a with rfl | a
            · exact .inl (.inr h)
            · exact .inr ⟨c,a,h⟩
theorem qve {src : List (List qh)} (c : ∀ b∈src,Qy b = 0) {f : List qh × Int→Option ((List qh × Int) ⊕ ((List qh) ⊕ (List qh × Int)))}
    (hs : ∀ k (j : k < src.length) (o : List qh),Qy o = 0→f (o,(k : Int)) = some (if (jB 2 o src[k]).2≠0 then .inr (.inr ([],(jB 2 o src[k]).2)) else .inl ((jB 2 o src[k]).1,((k + 1 : Nat) : Int))))
    (hd : ∀ o,f (o,(src.length : Int)) = some (.inr (.inl o))) : loop f ([],0) = some (if (Yi [] src).2 = 0 then .inl (Yi [] src).1 else .inr ([],(Yi [] src).2)):=by
  have key : ∀ (r pre : List (List qh)) (o : List qh),src = pre ++ r→Qy o = 0→loop f (o,(pre.length : Int)) = some (if (Yi o r).2 = 0 then .inl (Yi o r).1 else .inr ([],(Yi o r).2)):=by
    intro r
    induction r with
    | nil=>
      intro pre o h _;rw [List.append_nil] at h;subst h;rw [Kg (hd _)];rfl
    | cons a r ih=>
      intro pre o h m;have j : pre.length < src.length:=by rw [h];simp
      have p : src[pre.length] = a:=by simp [h]
      have d:=hs pre.length j o m;rw [p] at d;have g : Qy a = 0:=c a (by rw [h];simp);rcases qme m g with l | ⟨n,q,_⟩
      · rw [l,qr qz] at d;have e : Yi o (a::r) = ([],4):=by unfold Yi;rw [l];rfl
        rw [Kg d,e];rfl
      · rw [qp (by simp [n])] at d;have e : Yi o (a::r) = Yi (jB 2 o a).1 r:=by rw [Yi,qp (by simp [n])]
        rw [Kw d,e];have:=ih (pre ++ [a]) (jB 2 o a).1 (by rw [h];simp) q;simpa using this
  exact key src [] [] rfl q9h
noncomputable def Zd (t : Qr) (bs : List (List qh)) : List qh × Int:=if (Kj t bs).2≠0 then ([],(Kj t bs).2) else Yi [] (Kj t bs).1
theorem qrv (t : Qr) (bs : List (List qh)) : (Kj t bs).1.length≤t.Lines.length:=by
  by_cases a : (Kj t bs).2 = 0
  · rw [(qcn a).2.2];simp
  · have : (Kj t bs).1 = []:=by
      unfold Kj at a ⊢;split
      · rfl
      · rename_i b;rw [qp b] at a;split at a
        · exact absurd rfl a
        · rename_i c;rw [qp c]
    rw [this];simp
theorem q15m {R : List (List qh) × Int} (c : R.1.length≤1000000) (k : Nat) (b : k < R.1.length) (o : List qh) : q5i R (o,(k : Int)) = some (if (jB 2 o R.1[k]).2≠0 then .inr (.inr ([],(jB 2 o R.1[k]).2)) else .inl ((jB 2 o R.1[k]).1,((k + 1 : Nat) : Int))):=by
  simp only [q5i,dlt b,Q3,Qv b,qk,q14a,w64s b c];generalize jB 2 o R.1[k] = q;by_cases a : q.2 = 0
  · rw [qp (not_not_intro a),a];rfl
  · rw [qr a,show (q.2 != 0) = true by simpa using a,Q3]
theorem qiz (t : Qr) (bs : List (List qh)) (d : t.Lines.length≤1000000) (n : t.Marks.length≤1000000) (l : bs.length≤1000000) : q3x t bs = some (Zd t bs):=by
  unfold q3x Zd;have h:=qrv t bs;have c:=qcm (t:=t) (bs:=bs);rw [qk1 t bs d n l,qk];generalize Kj t bs = R at h c ⊢;by_cases b : R.2 = 0
  · rw [qp (not_not_intro b),b,show ((0 : Int) != 0) = false from rfl,Q0];rw [qve c (f:=q5i R) (fun k m o _=>q15m (Nat.le_trans h d) k m o) (fun o=>by simp only [q5i,dnl,Q0])];by_cases a : (Yi [] R.1).2 = 0
    · rw [qr a];simp only [qk];exact congrArg some (Prod.ext rfl a.symm)
    · rw [qp a];rcases qde q9h c with g | ⟨j,_⟩
      · rw [g];rfl
      · exact absurd j a
  · rw [qr b,show (R.2 != 0) = true by simpa using b,Q3]
def q2m (p q : K3) : Prop:=p.From≠q.From∧p.From≠q.To∧p.To≠q.From∧p.To≠q.To
instance (p q : K3) : Decidable (q2m p q):=by unfold q2m;infer_instance
theorem q164 (p q : qw) : ((p.X == q.X) && ((p.Y == q.Y) && ((p.Z == q.Z) && true))) = decide (p = q):=by
  rw [Bool.eq_iff_iff];simp [qj4]
theorem qrh (p q : K3) : qc1 p q = some (decide (q2m p q)):=by
  unfold qc1 q2m;simp only [q164];by_cases c : p.From = q.From <;> by_cases a : p.From = q.To <;> by_cases d : p.To = q.From <;> by_cases b : p.To = q.To <;> simp [c,a,d,b]
def qdh (a b : List qh) : Prop:=∃ x y z,hasB a x y z∧hasB b x y z
theorem qpn (l : List qh) (d : l.length≤1000000) (p : qh→Option Bool) (c : qh→Bool) (h : ∀ v∈l,p v = some (c v)) : q2a l p = some (l.any c):=by
  unfold q2a qat
  rcases Zh l c (fun k _=>(k : Int)) () (q1i l p) (fun k a=>by
    simp only [q1i,dlt a,Q3,Qv a,qk,w64s a d,h _ (Kp a)]
    cases c l[k] <;> simp) (by simp only [q1i,dnl,Q0]) with ⟨h1,h2⟩ | ⟨k,a,hc,_,h2⟩
  · rw [h2];have : l.any c = false:=by rw [List.any_eq_false];exact fun v b=>by rw [h1 v b];simp
    rw [this];rfl
  · rw [h2];have : l.any c = true:=List.any_eq_true.2 ⟨_,Kp a,hc⟩;simp only [qk];rw [this,Qc q6]
def ovB (p q : qh) : Prop:=((q.Lo.X < p.Hi.X∧p.Lo.X < q.Hi.X)∧q.Lo.Y < p.Hi.Y∧p.Lo.Y < q.Hi.Y)∧q.Lo.Z < p.Hi.Z∧p.Lo.Z < q.Hi.Z
instance (p q : qh) : Decidable (ovB p q):=by unfold ovB;infer_instance
theorem qxz (p q : qh) : q92 p q = some (decide (ovB p q)):=by
  unfold q92 ovB;by_cases g : q.Lo.X < p.Hi.X <;> by_cases a : p.Lo.X < q.Hi.X <;> by_cases c : q.Lo.Y < p.Hi.Y <;> by_cases d : p.Lo.Y < q.Hi.Y <;> by_cases f : q.Lo.Z < p.Hi.Z <;> by_cases b : p.Lo.Z < q.Hi.Z <;> simp [g,a,c,d,f,b]
theorem qnm {p q : qh} (hp : ltB p) (a : ltB q) : ovB p q↔∃ x y z,inB p x y z∧inB q x y z:=by
  obtain ⟨c,p2,p3⟩:=hp;obtain ⟨t,k,r⟩:=a;constructor
  · rintro ⟨⟨⟨s,j⟩,f,n⟩,o,g⟩;exact ⟨max p.Lo.X q.Lo.X,max p.Lo.Y q.Lo.Y,max p.Lo.Z q.Lo.Z,⟨q6,q6,q6⟩,⟨q6,q6,q6⟩⟩
  · rintro ⟨x,y,z,⟨b,d,m⟩,⟨b1,h,l⟩⟩;exact ⟨⟨⟨q6,q6⟩,q6,q6⟩,q6,q6⟩
open Classical in
theorem qw3 {a b : List qh} (n : Qy a = 0) (hb : Qy b = 0) : qc5 a b = some (decide (qdh a b)):=by
  obtain ⟨la,m,_⟩:=Y8.1 n;obtain ⟨o,l,_⟩:=Y8.1 hb;unfold qc5
  rw [qpn a q6 _ (fun x=>b.any fun y=>decide (ovB y x)) (fun x c=>by
    unfold qc6;rw [qpn b q6 _ (fun y=>decide (ovB y x)) (fun y _=>qxz y x)]
    rfl)]
  simp only [qk];congr 1;rw [Bool.eq_iff_iff];simp only [List.any_eq_true,decide_eq_true_eq];constructor
  · rintro ⟨x,c,y,d,h⟩;obtain ⟨i,j,k,g,f⟩:=(qnm (l y d).1 (m x c).1).1 h;exact ⟨i,j,k,⟨x,c,f⟩,⟨y,d,g⟩⟩
  · rintro ⟨i,j,k,⟨x,c,f⟩,⟨y,d,g⟩⟩;exact ⟨x,c,y,d,(qnm (l y d).1 (m x c).1).2 ⟨i,j,k,g,f⟩⟩
theorem qn2 {α β : Type} [DecidableEq α] (z v : β) (k b : α) : ∀ es : List (α × β),Zc z b (Ut k v es) = if b = k then v else Zc z b es
  | []=>by simp [Zc,Ut]
  | (a,w)::r=>by
    unfold Ut
    by_cases h : k = a
    · subst h
      rw [qr rfl]
      by_cases c : b = k <;> simp [Zc,c]
    · rw [qp h]
      have d:=qn2 z v k b r
      by_cases c : b = a
      · subst c
        simp [Zc,Ne.symm h]
      · simp [Zc,c,d]
section
variable (t : Qr) (L : List (List qh))
def cl (i k : Nat) : Prop:=i < k∧∃ p q a b,t.Lines[i]? = some p∧t.Lines[k]? = some q∧L[i]? = some a∧L[k]? = some b∧q2m p q∧qdh a b
open Classical in
noncomputable def row (i m : Nat) : List (Int × Int):=((List.range m).filter fun k=>decide (cl t L i k)).map fun (k : Nat)=>((i : Int),(k : Int))
noncomputable def pairs (n m : Nat) : List (Int × Int):=(List.range m).flatMap fun i=>row t L i n
end
open Classical in
theorem qi9 (t : Qr) (L : List (List qh)) (i m : Nat) : row t L i (m + 1) = row t L i m ++ if cl t L i m then [((i : Int),(m : Int))] else []:=by
  unfold row;rw [List.range_succ,List.filter_append,List.map_append];by_cases h : cl t L i m <;> simp [h]
theorem qi4 (t : Qr) (L : List (List qh)) (i : Nat) : ∀ m,m≤i + 1→row t L i m = []
  | 0,_=>rfl
  | m + 1,h=>by
    rw [qi9,qi4 t L i m q6,qp (fun a=>by have:=a.1;omega)];rfl
theorem qdp (t : Qr) (L : List (List qh)) (n m : Nat) : pairs t L n (m + 1) = pairs t L n m ++ row t L m n:=by
  unfold pairs;rw [List.range_succ,List.flatMap_append];simp
theorem qol (t : Qr) (L : List (List qh)) (i m : Nat) : (row t L i m).length≤m:=by
  unfold row;rw [List.length_map];exact Nat.le_trans (List.length_filter_le _ _) qg
theorem qnq (t : Qr) (L : List (List qh)) (n : Nat) : ∀ m,(pairs t L n m).length≤m * n
  | 0=>by simp [pairs]
  | m + 1=>by
    rw [qdp,List.length_append,Nat.succ_mul]
    have:=qnq t L n m
    have:=qol t L m n
    omega
section
variable {t : Qr} {bs : List (List qh)}
noncomputable def qcq (t : Qr) (bs : List (List qh)) : List (Int × Int) × Int:=if (Kj t bs).2≠0 then ([],(Kj t bs).2) else (pairs t (Kj t bs).1 t.Lines.length t.Lines.length,0)
open Classical in
theorem qt0 (h1 : t.Lines.length≤2000) (h2 : t.Marks.length≤1000000) (h3 : bs.length≤1000000) : q8y t bs = some (qcq t bs):=by
  unfold q8y qcq;rw [qk1 t bs q6 h2 h3,qk];by_cases y : (Kj t bs).2 = 0
  rotate_left
  · rw [qr y,show ((Kj t bs).2 != 0) = true by simpa using y];rfl
  rw [qp (by simp [y]),y,show ((0 : Int) != 0) = false from rfl,Q0];have s : (Kj t bs).1.length = t.Lines.length:=by rw [(qcn y).2.2];simp
  have l:=qcm (t:=t) (bs:=bs);generalize Kj t bs = R at y s l ⊢
  have found : ∃ es,loop (q8z R t) (0,[]) = some es∧∀ a b : Nat,Zc false ((a : Int),(b : Int)) es = decide (b < R.1.length∧cl t R.1 a b):=by
    refine J2 (fun k es=>((k : Int),es)) R.1.length (fun k es=>∀ a b : Nat,Zc false ((a : Int),(b : Int)) es = decide (b < k∧cl t R.1 a b)) (fun es=>∀ a b : Nat,Zc false ((a : Int),(b : Int)) es = decide (b < R.1.length∧cl t R.1 a b)) (fun k es m hi=>?_) (fun es hi=>⟨es,by simp only [q8z,dnl,Q0],hi⟩) (Nat.zero_le _) (fun a b=>by simp [Zc])
    obtain ⟨aa,z,e2⟩:=J2 (f:=q5f ((k : Int),es) t R) (fun i es=>((i : Int),es)) k (fun i es=>∀ a b : Nat,Zc false ((a : Int),(b : Int)) es = decide ((b < k∨(b = k∧a < i))∧cl t R.1 a b)) (fun es=>∀ a b : Nat,Zc false ((a : Int),(b : Int)) es = decide (b < k + 1∧cl t R.1 a b)) (fun i es x hi=>by
      have w : k < t.Lines.length:=by omega
      have v : i < t.Lines.length:=by omega
      left
      have u : cl t R.1 i k↔q2m t.Lines[i] t.Lines[k]∧qdh (R.1[i]'(q6)) R.1[k]:=by
        unfold cl;constructor
        · rintro ⟨_,p,q,a,b,d,c,g3,g4,g5,g6⟩;rw [List.getElem?_eq_getElem v] at d;rw [List.getElem?_eq_getElem w] at c;rw [List.getElem?_eq_getElem q6] at g3;rw [List.getElem?_eq_getElem m] at g4;cases d;cases c;cases g3;cases g4;exact ⟨g5,g6⟩
        · rintro ⟨g5,g6⟩;exact ⟨x,_,_,_,_,List.getElem?_eq_getElem v,List.getElem?_eq_getElem w,List.getElem?_eq_getElem q6,List.getElem?_eq_getElem m,g5,g6⟩
      refine ⟨if cl t R.1 i k then Ut ((i : Int),(k : Int)) true es else es,?_,fun a b=>?_⟩
      · have r : i < R.1.length:=by omega
        simp only [q5f,dlt x,Q3,Qv v,Qv w,Qv r,Qv m,qk,qrh,qw3 (l _ (Kp r)) (l _ (Kp m)),w64s x (show k≤1000000 by omega)];by_cases d : q2m t.Lines[i] t.Lines[k]
        · by_cases c : qdh R.1[i] R.1[k]
          · rw [qr (u.2 ⟨d,c⟩),Qc d,Qc c];rfl
          · rw [qp (fun h=>c (u.1 h).2),Qc d,Q9 c];rfl
        · rw [qp (fun h=>d (u.1 h).1),Q9 d];rfl
      · have ha:=hi a b;by_cases o : cl t R.1 i k
        · rw [qr o,qn2,ha];by_cases n : a = i∧b = k
          · obtain ⟨rfl,rfl⟩:=n;rw [qr rfl,Qc ⟨.inr ⟨rfl,q6⟩,o⟩]
          · rw [qp (fun h=>n (by simp only [Prod.mk.injEq] at h;omega))];rw [decide_eq_decide];constructor
            · rintro ⟨d,c⟩;exact ⟨q6,c⟩
            · rintro ⟨d,c⟩;exact ⟨q6,c⟩
        · rw [qp o,ha,decide_eq_decide];constructor
          · rintro ⟨d,c⟩;exact ⟨q6,c⟩
          · rintro ⟨d,c⟩;refine ⟨?_,c⟩;by_cases n : a = i∧b = k
            · obtain ⟨rfl,rfl⟩:=n;exact absurd c o
            · omega) (fun es hi=>⟨es,by simp only [q5f,dnl,Q0],fun a b=>by
        rw [hi,decide_eq_decide];constructor
        · rintro ⟨d,c⟩;exact ⟨q6,c⟩
        · rintro ⟨d,c⟩;have:=c.1
          exact ⟨q6,c⟩⟩) (Nat.zero_le k) (c0:=es) (fun a b=>by
        rw [hi a b,decide_eq_decide];constructor
        · rintro ⟨d,c⟩;exact ⟨.inl d,c⟩
        · rintro ⟨d,c⟩;exact ⟨q6,c⟩)
    refine .inl ⟨aa,?_,e2⟩;have z : loop (q5f ((k : Int),es) t R) (0,es) = some aa:=z;simp only [q8z,dlt m,Q3,z,qk,w64s m (show R.1.length≤1000000 by omega)]
  obtain ⟨es,z,e2⟩:=found;rw [z];simp only [qk];have e3 : ∀ a b : Nat,b < R.1.length→Zc false ((a : Int),(b : Int)) es = decide (cl t R.1 a b):=fun a b hb=>by rw [e2,decide_eq_decide];exact ⟨fun h=>h.2,fun h=>⟨hb,h⟩⟩
  have ah : R.1.length * R.1.length≤2000 * 2000:=Nat.mul_le_mul q6 q6
  have g:=Ja (f:=q5g R es) (fun i=>((i : Int),pairs t R.1 R.1.length i)) R.1.length (pairs t R.1 R.1.length R.1.length) (fun i hi=>by
    have ai:=qnq t R.1 R.1.length i;have al : i * R.1.length≤R.1.length * R.1.length:=Nat.mul_le_mul_right _ (Nat.le_of_lt hi)
    have j:=Ja (f:=q5h R ((i : Int),pairs t R.1 R.1.length i) es) (fun k=>((k : Int),pairs t R.1 R.1.length i ++ row t R.1 i k)) R.1.length (pairs t R.1 R.1.length i ++ row t R.1 i R.1.length) (fun k m=>by
      have am:=qol t R.1 i k;simp only [q5h,dlt m,Q3,e3 i k m,w64s m (show R.1.length≤1000000 by omega)];rw [qi9];by_cases o : cl t R.1 i k
      · rw [Qc o,qr o,Q3,Y7 (by simp;omega),List.append_assoc];rfl
      · rw [Q9 o,qp o,List.append_nil];rfl) (by simp only [q5h,dnl,Q0]) (Nat.zero_le _)
    have j : loop (q5h R ((i : Int),pairs t R.1 R.1.length i) es) (0,pairs t R.1 R.1.length i) = some (pairs t R.1 R.1.length i ++ row t R.1 i R.1.length):=by
      have e0 : (((0 : Nat) : Int),pairs t R.1 R.1.length i ++ row t R.1 i 0) = ((0 : Int),pairs t R.1 R.1.length i):=by simp [row]
      rw [← e0];exact j
    simp only [q5g,dlt hi,Q3,j,qk,w64s hi (show R.1.length≤1000000 by omega),qdp]) (by simp only [q5g,dnl,Q0]) (Nat.zero_le _)
  have g : loop (q5g R es) (0,[]) = some (pairs t R.1 R.1.length R.1.length):=g;rw [g,s];rfl
theorem qzx (p : List (Int × Int)) (b : p.length≤1000000) : qah p p = some true:=by
  unfold qah;rw [show ((p.length : Int) != (p.length : Int)) = false by simp,Q0]
  rcases Zh p (fun _=>false) (fun k _=>false) () (q73 p p) (fun k a=>by
    simp only [q73,dlt a,Q3,Qv a,qk,w64s a b,beq_self_eq_true,Bool.and_true,Bool.not_true,Q0]
    rfl) (by simp only [q73,dnl,Q0]) with ⟨a1,a2⟩ | ⟨k,a,hc,_,a2⟩
  · rw [a2];rfl
  · cases hc
end
end Go.Sh
namespace Go.Sh
open Go Go.Am
theorem qrx {t : Qr} {bs : List (List qh)} (h : Ze t bs) : (Kj t bs).2 = fstE (barB bs) t.Lines:=by
  unfold Kj;rw [qp (not_not_intro (q9j.2 h))];by_cases a : fstE (barB bs) t.Lines = 0
  · rw [qr a,a]
  · rw [qp a]
theorem qrw {t : Qr} {bs : List (List qh)} (h : Ze t bs) : (Kj t bs).2 = 0∨((Kj t bs).1 = []∧((Kj t bs).2 = 4∨(Kj t bs).2 = 16)):=by
  by_cases a : (Kj t bs).2 = 0
  · exact .inl a
  · have e:=qrx h
    have b : (Kj t bs).1 = []:=by
      unfold Kj at a ⊢;rw [qp (not_not_intro (q9j.2 h))] at a ⊢;split at a
      · exact absurd rfl a
      · rename_i g;rw [qp g]
    refine .inr ⟨b,?_⟩
    have c : fstE (barB bs) t.Lines = 0∨fstE (barB bs) t.Lines = 4∨fstE (barB bs) t.Lines = 16:=qlx (P:=fun e=>e = 0∨e = 4∨e = 16) (fun l d=>by
      rcases qrt l (Zo bs l) (Y8.1 (qfo h d)).1 with g | ⟨_,g | g⟩
      · exact .inl g
      · exact .inr (.inl g)
      · exact .inr (.inr g)) (.inl rfl)
    rw [e] at a ⊢;rcases c with g | g | g
    · exact absurd g a
    · exact .inl g
    · exact .inr g
theorem qqg {t : Qr} {bs : List (List qh)} (h : Ze t bs) : (Zd t bs).2 = 0∨(Zd t bs).2 = 4∨(Zd t bs).2 = 16:=by
  unfold Zd;rcases qrw h with g | ⟨_,g⟩
  · rw [qp (not_not_intro g)];rcases qde q9h (qcm (t:=t) (bs:=bs)) with k | ⟨k,_⟩
    · rw [k];exact .inr (.inl rfl)
    · exact .inl k
  · rw [qr (by rcases g with g | g <;> rw [g] <;> decide)];exact .inr g
theorem qk0 {t : Qr} {bs : List (List qh)} (h : Ze t bs) {l : K3} (d : l∈t.Lines) (f : (barB bs l).2 = 0) (x y z : Int) :
    hasB (barB bs l).1 x y z↔∃ p,onL l.From l.To p∧hasB (Zo bs l) (x - p.X) (y - p.Y) (z - p.Z):=by
  obtain ⟨a,c,_⟩:=Y8.1 (qfo h d);have e:=(qjz f a).2.2.2 x y z;unfold barB;rw [e,quw fun b hb=>q163 (c b hb)];simp only [quu]
theorem qqf {t : Qr} {bs : List (List qh)} (h : (Zd t bs).2 = 0) : Ze t bs∧(Kj t bs).2 = 0∧Qy (Zd t bs).1 = 0∧
    ∀ x y z,hasB (Zd t bs).1 x y z↔∃ l∈t.Lines,∃ p,onL l.From l.To p∧hasB (Zo bs l) (x - p.X) (y - p.Y) (z - p.Z):=by
  unfold Zd at h ⊢;by_cases c : (Kj t bs).2 = 0
  rotate_left
  · rw [qr c] at h;exact absurd h c
  rw [qp (not_not_intro c)] at h ⊢;obtain ⟨d,j,f⟩:=qcn c;rcases qde q9h (qcm (t:=t) (bs:=bs)) with k | ⟨_,n,m⟩
  · rw [k] at h;exact absurd h qz
  refine ⟨d,c,n,fun x y z=>?_⟩;rw [m];constructor
  · rintro (g | ⟨b,hb,g⟩)
    · exact absurd g (q37 x y z)
    · rw [f] at hb;obtain ⟨l,a,rfl⟩:=List.mem_map.1 hb;exact ⟨l,a,(qk0 d a (j l a) x y z).1 g⟩
  · rintro ⟨l,a,g⟩;refine .inr ⟨(barB bs l).1,?_,(qk0 d a (j l a) x y z).2 g⟩;rw [f];exact List.mem_map.2 ⟨l,a,rfl⟩
def partT (ls : List K3) : Qr:={Lines:=ls,Marks:=[],End:=({Frame:=({Turn:=0,At:=({X:=0,Y:=0,Z:=0} : qw)} : K0),Drawn:=0} : Z4)}
theorem qr7 : FOk ({Turn:=0,At:=({X:=0,Y:=0,Z:=0} : qw)} : K0):=by unfold FOk InV;decide
end Go.Sh
namespace Go.Sh
open Go Go.Am
instance (a c : qw) : Decidable (Ax a c):=by unfold Ax;infer_instance
instance (l : K3) : Decidable (LOk l):=by unfold LOk;infer_instance
def ln (x y u v d : Int) : K3:={From:=({X:=x,Y:=y,Z:=0} : qw),To:=({X:=u,Y:=v,Z:=0} : qw),Depth:=d}
def ub : List qh:=[bx 0 0 0 1 1 1]
theorem qvq (x y u v : Int) : q23 x y u v = some (ln x y u v 0):=rfl
theorem q162 : q6d = some ub:=rfl
theorem qj2 : Qy ub = 0:=q2p qz
theorem qkb {ls : List K3} {bs : List (List qh)} (a : ls.length≤2000∧bs.length≤20∧bs.length≠0) (c : ∀ l∈ls,LOk l∧0≤l.Depth) (f : ∀ b∈bs,Qy b = 0) : Ze (partT ls) bs:=
  ⟨⟨⟨a.1,by simp [partT],qr7⟩,fun l h=>(c l h).1,fun m d=>by simp [partT] at d⟩,a.2.1,f,fun _ e=>a.2.2 (by rw [e];rfl),fun l h=>(c l h).2⟩
theorem qjy {l : K3} {b m out : List qh} (e : b.map (swp l.From l.To) = m) (h : m.length≤400∧(∀ x∈m,vB x)∧out.length≤400) (c : isB out) (a : ∀ x y z,hasB m x y z↔hasB out x y z) : barS l b = (out,0):=by
  unfold barS;rw [qr (fun x d=>h.2.1 _ (e ▸ List.mem_map_of_mem d)),e];exact qw6 h c a
theorem qk2 {t : Qr} {bs : List (List qh)} {g : K3→List qh} (h : Ze t bs) (b : ∀ l∈t.Lines,barB bs l = (g l,0)) : Kj t bs = (t.Lines.map g,0):=by
  have e : fstE (barB bs) t.Lines = 0:=qgk.2 fun l a=>by rw [b l a]
  unfold Kj;rw [qp (not_not_intro (q9j.2 h)),qr e];congr 1;exact List.map_congr_left fun l a=>by rw [b l a]
theorem q15i {t : Qr} {bs : List (List qh)} {L : List (List qh)} (h : Kj t bs = (L,0)) : Zd t bs = Yi [] L:=by
  unfold Zd;rw [h];rfl
theorem qgz {o b q : List qh} {r : List (List qh)} (h : jB 2 o b = (q,0)) : Yi o (b::r) = Yi q r:=by
  rw [Yi,h];rfl
theorem qru {l : K3} {b : List qh} (h : LOk l) (hb : Qy b = 0) : barT l b = barS l b:=by
  have : TOk (oneT l):=⟨⟨by simp [oneT],by simp [oneT],qr7⟩,fun k a=>by simp [oneT] at a;subst a;exact h,fun m c=>by simp [oneT] at c⟩
  unfold barT;rw [qp (not_not_intro this),qp (not_not_intro hb)]
theorem quv (b : qh) (x y z : Int) : hasB [b] x y z↔inB b x y z:=by simp [qgp,q37]
open Classical in
theorem qy0 {t : Qr} {L : List (List qh)} (h : cl t L 0 1) : pairs t L 2 2 = [(0,1)]:=by
  have e : pairs t L 2 2 = row t L 0 2 ++ row t L 1 2:=by rw [qdp,qdp];rfl
  rw [e,qi4 t L 1 2 q6,qi9,qi4 t L 0 1 q6,qr h];rfl
theorem qre : qa0 = some true:=by
  have b1 : barT (ln 0 0 3 0 0) ub = ([bx 0 0 0 4 1 1],0):=by
    rw [qru qz qj2];exact qjy (m:=[bx 0 0 0 4 1 1]) rfl qz qz fun x y z=>Iff.rfl
  let g : K3→List qh:=fun l=>ub.map (swp l.From l.To)
  have c : ∀ ls : List K3,(∀ l∈ls,Zo [ub] l = ub∧((ub.map (swp l.From l.To)).length≤400∧(∀ x∈ub.map (swp l.From l.To),vB x)∧(ub.map (swp l.From l.To)).length≤400)∧isB (ub.map (swp l.From l.To)))→∀ l∈ls,barB [ub] l = (g l,0):=fun ls h l n=>by
    obtain ⟨o,f,p⟩:=h l n;unfold barB;rw [o];exact qjy (m:=ub.map (swp l.From l.To)) rfl f p fun x y z=>Iff.rfl
  have s : Zd (partT [ln 0 0 1 0 0,ln 1 0 2 0 0,ln 2 0 2 1 0]) [ub] = ([bx 0 0 0 2 1 1,bx 2 0 0 3 2 1],0):=by
    have hb:=qk2 (qkb (bs:=[ub]) (ls:=[ln 0 0 1 0 0,ln 1 0 2 0 0,ln 2 0 2 1 0]) qz qz (by simp [qj2])) (c [ln 0 0 1 0 0,ln 1 0 2 0 0,ln 2 0 2 1 0] qz);rw [q15i hb];have e : (partT [ln 0 0 1 0 0,ln 1 0 2 0 0,ln 2 0 2 1 0]).Lines.map g = [[bx 0 0 0 2 1 1],[bx 1 0 0 3 1 1],[bx 2 0 0 3 2 1]]:=rfl;have q : jB 2 [] [bx 0 0 0 2 1 1] = ([bx 0 0 0 2 1 1],0):=qgy q9h (q2p qz) (isB.can qz) qz fun x y z=>by rw [q4c];simp [q37]
    have r : jB 2 [bx 0 0 0 2 1 1] [bx 1 0 0 3 1 1] = ([bx 0 0 0 3 1 1],0):=qgy (q2p qz) (q2p qz) (isB.can qz) qz fun x y z=>by
      rw [q4c];simp only [quv,inB,bx];omega
    have d : jB 2 [bx 0 0 0 3 1 1] [bx 2 0 0 3 2 1] = ([bx 0 0 0 2 1 1,bx 2 0 0 3 2 1],0):=qgy (q2p qz) (q2p qz) (isB.can qz) qz fun x y z=>by
      rw [q4c];simp only [qgp,q37,or_false,inB,bx];omega
    rw [e,qgz q,qgz r,qgz d];rfl
  have j : volume [bx 0 0 0 2 1 1,bx 2 0 0 3 2 1] = (4,0):=by unfold volume;rw [qp (by simp [q2p (l:=[bx 0 0 0 2 1 1,bx 2 0 0 3 2 1]) qz])];rfl
  have c1 : qcq (partT [ln 0 0 2 0 0,ln 1 (-1) 1 1 0]) [ub] = ([(0,1)],0):=by
    have hb:=qk2 (qkb (bs:=[ub]) (ls:=[ln 0 0 2 0 0,ln 1 (-1) 1 1 0]) qz qz (by simp [qj2])) (c [ln 0 0 2 0 0,ln 1 (-1) 1 1 0] qz);have e : (partT [ln 0 0 2 0 0,ln 1 (-1) 1 1 0]).Lines.map g = [[bx 0 0 0 3 1 1],[bx 1 (-1) 0 2 2 1]]:=rfl;rw [e] at hb;unfold qcq;rw [hb]
    have k : cl (partT [ln 0 0 2 0 0,ln 1 (-1) 1 1 0]) [[bx 0 0 0 3 1 1],[bx 1 (-1) 0 2 2 1]] 0 1:=
      ⟨qz,ln 0 0 2 0 0,ln 1 (-1) 1 1 0,_,_,rfl,rfl,rfl,rfl,by unfold q2m ln;simp,1,0,0,qz,qz⟩
    rw [qp qz];exact Prod.ext (qy0 k) rfl
  have b : q3x ({Lines:=[ln 0 0 1 0 0,ln 1 0 2 0 0,ln 2 0 2 1 0],Marks:=[],End:=({Frame:=({Turn:=0,At:=({X:=0,Y:=0,Z:=0} : qw)} : K0),Drawn:=0} : Z4)} : Qr) [ub] = _:=qiz (partT [ln 0 0 1 0 0,ln 1 0 2 0 0,ln 2 0 2 1 0]) [ub] qz qz qz;have a : q8y ({Lines:=[ln 0 0 2 0 0,ln 1 (-1) 1 1 0],Marks:=[],End:=({Frame:=({Turn:=0,At:=({X:=0,Y:=0,Z:=0} : qw)} : K0),Drawn:=0} : Z4)} : Qr) [ub] = _:=qt0 (t:=partT [ln 0 0 2 0 0,ln 1 (-1) 1 1 0]) (bs:=[ub]) qz qz qz;unfold qa0;simp only [qvq,q162,qk,qzw,b1,b,s,q14c,j,a,c1];rw [show ({Lo:=({X:=0,Y:=0,Z:=0} : qw),Hi:=({X:=4,Y:=1,Z:=1} : qw)} : qh) = bx 0 0 0 4 1 1 from rfl,sameBox _ _ qz,qzx _ qz];simp
structure q9c (t : Qr) (bs : List (List qh)) : Prop where
  small : Small t bs
  tok : TOk t
  some' : 1≤bs.length∧bs.length≤5
  depth : ∀ l∈t.Lines,0≤l.Depth
  near : ∀ l∈t.Lines,InV l.From (-1000)∧max (max l.From.X l.From.Y) l.From.Z≤1000
  brush : ∀ b∈bs,Qy b = 0
theorem q9c.ne {t : Qr} {bs : List (List qh)} (h : q9c t bs) : bs≠[]:=fun e=>by have:=h.some'.1;rw [e] at this;simp at this
theorem q9c.ok {t : Qr} {bs : List (List qh)} (h : q9c t bs) : Ze t bs:=⟨h.tok,by have:=h.some'.2;omega,h.brush,fun _=>h.ne,h.depth⟩
theorem qu9 (t : Qr) (bs : List (List qh)) : q69 t bs = some false∨(q69 t bs = some true∧q9c t bs):=by
  unfold q69;rcases qus t bs with h | ⟨h,hs⟩
  · rw [h];exact .inl rfl
  rw [h];have p:=hs.lines;have o:=hs.marks;have q:=hs.many;simp only [qk,Q0,qyq t q6 q6];by_cases g : TOk t
  rotate_left
  · rw [qp g];exact .inl rfl
  rw [qr g,show ((0 : Int) != 0) = false from rfl];simp only [qk,Q0];by_cases n : bs.length < 1
  · rw [Qc (by omega : (bs.length : Int) < 1)];exact .inl rfl
  by_cases r : bs.length > 5
  · rw [Q9 (by omega : ¬ (bs.length : Int) < 1),Qc (by omega : (bs.length : Int) > 5)];exact .inl rfl
  rw [Q9 (by omega : ¬ (bs.length : Int) < 1),Q9 (by omega : ¬ (bs.length : Int) > 5)];simp only [qk,Q0]
  rcases Zh t.Lines (fun l=>!decide (0≤l.Depth∧InV l.From (-1000)∧max (max l.From.X l.From.Y) l.From.Z≤1000)) (fun k _=>false) () (q6a t) (fun k a=>by
    simp only [q6a,dlt a,Q3,Qv a,qk,w64s a (show t.Lines.length≤1000000 by omega),qcd];generalize t.Lines[k] = l;by_cases f : l.Depth < 0
    · have e : decide (0≤l.Depth∧InV l.From (-1000)∧max (max l.From.X l.From.Y) l.From.Z≤1000) = false:=Q9 fun h=>by omega
      rw [e,Qc f];rfl
    by_cases c : InV l.From (-1000)
    · by_cases j : max (max l.From.X l.From.Y) l.From.Z > 1000
      · have e : decide (0≤l.Depth∧InV l.From (-1000)∧max (max l.From.X l.From.Y) l.From.Z≤1000) = false:=Q9 fun h=>by omega
        rw [e,Q9 f,Qc c,Qc j];rfl
      · have e : decide (0≤l.Depth∧InV l.From (-1000)∧max (max l.From.X l.From.Y) l.From.Z≤1000) = true:=Qc ⟨q6,c,q6⟩;rw [e,Q9 f,Qc c,Q9 j];rfl
    · have e : decide (0≤l.Depth∧InV l.From (-1000)∧max (max l.From.X l.From.Y) l.From.Z≤1000) = false:=Q9 fun h=>c h.2.1
      rw [e,Q9 f,Q9 c];rfl) (by simp only [q6a,dnl,Q0]) with ⟨a1,a2⟩ | ⟨k,a,hc,_,a2⟩
  rotate_left
  · rw [a2];exact .inl rfl
  rw [a2];simp only [qk]
  rcases Zh bs (fun b=>decide (Qy b≠0)) (fun k _=>false) () (q6b bs) (fun k a=>by
    simp only [q6b,dlt a,Q3,Qv a,qk,w64s a (show bs.length≤1000000 by omega),qyr]
    by_cases h : Qy bs[k] = 0 <;> simp [qfl,h]) (by simp only [q6b,dnl,Q0]) with ⟨b1,b2⟩ | ⟨k,a,hc,_,b2⟩
  rotate_left
  · rw [b2];exact .inl rfl
  rw [b2];have m : ∀ l∈t.Lines,0≤l.Depth∧InV l.From (-1000)∧max (max l.From.X l.From.Y) l.From.Z≤1000:=fun l d=>by simpa using a1 l d
  exact .inr ⟨rfl,hs,g,q6,fun l d=>(m l d).1,fun l d=>(m l d).2,fun b hb=>by simpa using b1 b hb⟩
end Go.Sh
namespace Go.Sh
open Go Go.Am
end Go.Sh
namespace Go.Sh
open Go Go.Am
end Go.Sh
namespace Go.Sh
open Go Go.Am
def tbl : List V3:=[(⟨1,0,0⟩,⟨0,1,0⟩,⟨0,0,1⟩),(⟨1,0,0⟩,⟨0,-1,0⟩,⟨0,0,-1⟩),(⟨1,0,0⟩,⟨0,0,1⟩,⟨0,-1,0⟩),(⟨1,0,0⟩,⟨0,0,-1⟩,⟨0,1,0⟩),(⟨-1,0,0⟩,⟨0,1,0⟩,⟨0,0,-1⟩),(⟨-1,0,0⟩,⟨0,-1,0⟩,⟨0,0,1⟩),(⟨-1,0,0⟩,⟨0,0,1⟩,⟨0,1,0⟩),(⟨-1,0,0⟩,⟨0,0,-1⟩,⟨0,-1,0⟩),(⟨0,1,0⟩,⟨1,0,0⟩,⟨0,0,-1⟩),(⟨0,1,0⟩,⟨-1,0,0⟩,⟨0,0,1⟩),(⟨0,1,0⟩,⟨0,0,1⟩,⟨1,0,0⟩),(⟨0,1,0⟩,⟨0,0,-1⟩,⟨-1,0,0⟩),(⟨0,-1,0⟩,⟨1,0,0⟩,⟨0,0,1⟩),(⟨0,-1,0⟩,⟨-1,0,0⟩,⟨0,0,-1⟩),(⟨0,-1,0⟩,⟨0,0,1⟩,⟨-1,0,0⟩),(⟨0,-1,0⟩,⟨0,0,-1⟩,⟨1,0,0⟩),(⟨0,0,1⟩,⟨1,0,0⟩,⟨0,1,0⟩),(⟨0,0,1⟩,⟨-1,0,0⟩,⟨0,-1,0⟩),(⟨0,0,1⟩,⟨0,1,0⟩,⟨-1,0,0⟩),(⟨0,0,1⟩,⟨0,-1,0⟩,⟨1,0,0⟩),(⟨0,0,-1⟩,⟨1,0,0⟩,⟨0,-1,0⟩),(⟨0,0,-1⟩,⟨-1,0,0⟩,⟨0,1,0⟩),(⟨0,0,-1⟩,⟨0,1,0⟩,⟨1,0,0⟩),(⟨0,0,-1⟩,⟨0,-1,0⟩,⟨-1,0,0⟩)]
theorem q2n : ∀ t : Nat,t < 24→axT t∈tbl:=by decide +kernel
noncomputable def invI (t : Nat) : Nat:=([0,1,3,2,4,5,6,7,8,12,16,20,9,13,21,17,10,15,22,19,11,14,18,23] : List Nat)[t]?.getD 0
def tbl2 : List (V3 × V3):=[((⟨1,0,0⟩,⟨0,1,0⟩,⟨0,0,1⟩),(⟨1,0,0⟩,⟨0,1,0⟩,⟨0,0,1⟩)),((⟨1,0,0⟩,⟨0,-1,0⟩,⟨0,0,-1⟩),(⟨1,0,0⟩,⟨0,-1,0⟩,⟨0,0,-1⟩)),((⟨1,0,0⟩,⟨0,0,1⟩,⟨0,-1,0⟩),(⟨1,0,0⟩,⟨0,0,-1⟩,⟨0,1,0⟩)),((⟨1,0,0⟩,⟨0,0,-1⟩,⟨0,1,0⟩),(⟨1,0,0⟩,⟨0,0,1⟩,⟨0,-1,0⟩)),((⟨-1,0,0⟩,⟨0,1,0⟩,⟨0,0,-1⟩),(⟨-1,0,0⟩,⟨0,1,0⟩,⟨0,0,-1⟩)),((⟨-1,0,0⟩,⟨0,-1,0⟩,⟨0,0,1⟩),(⟨-1,0,0⟩,⟨0,-1,0⟩,⟨0,0,1⟩)),((⟨-1,0,0⟩,⟨0,0,1⟩,⟨0,1,0⟩),(⟨-1,0,0⟩,⟨0,0,1⟩,⟨0,1,0⟩)),((⟨-1,0,0⟩,⟨0,0,-1⟩,⟨0,-1,0⟩),(⟨-1,0,0⟩,⟨0,0,-1⟩,⟨0,-1,0⟩)),((⟨0,1,0⟩,⟨1,0,0⟩,⟨0,0,-1⟩),(⟨0,1,0⟩,⟨1,0,0⟩,⟨0,0,-1⟩)),((⟨0,1,0⟩,⟨-1,0,0⟩,⟨0,0,1⟩),(⟨0,-1,0⟩,⟨1,0,0⟩,⟨0,0,1⟩)),((⟨0,1,0⟩,⟨0,0,1⟩,⟨1,0,0⟩),(⟨0,0,1⟩,⟨1,0,0⟩,⟨0,1,0⟩)),((⟨0,1,0⟩,⟨0,0,-1⟩,⟨-1,0,0⟩),(⟨0,0,-1⟩,⟨1,0,0⟩,⟨0,-1,0⟩)),((⟨0,-1,0⟩,⟨1,0,0⟩,⟨0,0,1⟩),(⟨0,1,0⟩,⟨-1,0,0⟩,⟨0,0,1⟩)),((⟨0,-1,0⟩,⟨-1,0,0⟩,⟨0,0,-1⟩),(⟨0,-1,0⟩,⟨-1,0,0⟩,⟨0,0,-1⟩)),((⟨0,-1,0⟩,⟨0,0,1⟩,⟨-1,0,0⟩),(⟨0,0,-1⟩,⟨-1,0,0⟩,⟨0,1,0⟩)),((⟨0,-1,0⟩,⟨0,0,-1⟩,⟨1,0,0⟩),(⟨0,0,1⟩,⟨-1,0,0⟩,⟨0,-1,0⟩)),((⟨0,0,1⟩,⟨1,0,0⟩,⟨0,1,0⟩),(⟨0,1,0⟩,⟨0,0,1⟩,⟨1,0,0⟩)),((⟨0,0,1⟩,⟨-1,0,0⟩,⟨0,-1,0⟩),(⟨0,-1,0⟩,⟨0,0,-1⟩,⟨1,0,0⟩)),((⟨0,0,1⟩,⟨0,1,0⟩,⟨-1,0,0⟩),(⟨0,0,-1⟩,⟨0,1,0⟩,⟨1,0,0⟩)),((⟨0,0,1⟩,⟨0,-1,0⟩,⟨1,0,0⟩),(⟨0,0,1⟩,⟨0,-1,0⟩,⟨1,0,0⟩)),((⟨0,0,-1⟩,⟨1,0,0⟩,⟨0,-1,0⟩),(⟨0,1,0⟩,⟨0,0,-1⟩,⟨-1,0,0⟩)),((⟨0,0,-1⟩,⟨-1,0,0⟩,⟨0,1,0⟩),(⟨0,-1,0⟩,⟨0,0,1⟩,⟨-1,0,0⟩)),((⟨0,0,-1⟩,⟨0,1,0⟩,⟨1,0,0⟩),(⟨0,0,1⟩,⟨0,1,0⟩,⟨-1,0,0⟩)),((⟨0,0,-1⟩,⟨0,-1,0⟩,⟨-1,0,0⟩),(⟨0,0,-1⟩,⟨0,-1,0⟩,⟨-1,0,0⟩))]
theorem qmd : ∀ t : Nat,t < 24→(axT t,axT (invI t))∈tbl2:=by decide +kernel
def uMap (m : V3) (a : qw) (x y z : Int) : qw:=⟨x * m.1.X + y * m.2.1.X + z * m.2.2.X + min 0 (m.1.X + m.2.1.X + m.2.2.X) + a.X,x * m.1.Y + y * m.2.1.Y + z * m.2.2.Y + min 0 (m.1.Y + m.2.1.Y + m.2.2.Y) + a.Y,x * m.1.Z + y * m.2.1.Z + z * m.2.2.Z + min 0 (m.1.Z + m.2.1.Z + m.2.2.Z) + a.Z⟩
def boxM (m : V3) (a : qw) (b : qh) : qh:=q8r (addV (mulV m b.Lo) a) (addV (mulV m b.Hi) a)
theorem qi3 {a b c j g k l f d x y z t : Int} (h : rowOk a b c) (o : j < l) (m : g < f) (n : k < d) :
    (min (j * a + g * b + k * c + t) (l * a + f * b + d * c + t)≤x * a + y * b + z * c + min 0 (a + b + c) + t∧x * a + y * b + z * c + min 0 (a + b + c) + t < max (j * a + g * b + k * c + t) (l * a + f * b + d * c + t))↔
      ((a≠0→j≤x∧x < l)∧(b≠0→g≤y∧y < f)∧(c≠0→k≤z∧z < d)):=by
  rcases h with ⟨rfl,rfl,rfl⟩ | ⟨rfl,rfl,rfl⟩ | ⟨rfl,rfl,rfl⟩ | ⟨rfl,rfl,rfl⟩ | ⟨rfl,rfl,rfl⟩ | ⟨rfl,rfl,rfl⟩ <;> omega
theorem qi2 {a b c j g k l f d t : Int} (h : rowOk a b c) (o : j < l) (m : g < f) (n : k < d) :
    max (j * a + g * b + k * c + t) (l * a + f * b + d * c + t) - min (j * a + g * b + k * c + t) (l * a + f * b + d * c + t) = (if a = 0 then 0 else l - j) + (if b = 0 then 0 else f - g) + (if c = 0 then 0 else d - k):=by
  rcases h with ⟨rfl,rfl,rfl⟩ | ⟨rfl,rfl,rfl⟩ | ⟨rfl,rfl,rfl⟩ | ⟨rfl,rfl,rfl⟩ | ⟨rfl,rfl,rfl⟩ | ⟨rfl,rfl,rfl⟩ <;> simp <;> omega
theorem qi7 {a b c p g q k n l m d w0 f j o t : Int} (h : rowOk a b c) (x : p < k) (s : g < n) (r : q < l) (u : m < f) (v : d < j) (w : w0 < o) :
    min (max (p * a + g * b + q * c + t) (k * a + n * b + l * c + t)) (max (m * a + d * b + w0 * c + t) (f * a + j * b + o * c + t)) - max (min (p * a + g * b + q * c + t) (k * a + n * b + l * c + t)) (min (m * a + d * b + w0 * c + t) (f * a + j * b + o * c + t)) =
      (if a = 0 then 0 else min k f - max p m) + (if b = 0 then 0 else min n j - max g d) + (if c = 0 then 0 else min l o - max q w0):=by
  rcases h with ⟨rfl,rfl,rfl⟩ | ⟨rfl,rfl,rfl⟩ | ⟨rfl,rfl,rfl⟩ | ⟨rfl,rfl,rfl⟩ | ⟨rfl,rfl,rfl⟩ | ⟨rfl,rfl,rfl⟩ <;> simp <;> omega
def qdq (m : V3) : Prop:=(rowOk m.1.X m.2.1.X m.2.2.X∧rowOk m.1.Y m.2.1.Y m.2.2.Y∧rowOk m.1.Z m.2.1.Z m.2.2.Z)∧
  ((m.1.X≠0∧m.2.1.Y≠0∧m.2.2.Z≠0)∨(m.1.X≠0∧m.2.1.Z≠0∧m.2.2.Y≠0)∨(m.1.Y≠0∧m.2.1.X≠0∧m.2.2.Z≠0)∨(m.1.Y≠0∧m.2.1.Z≠0∧m.2.2.X≠0)∨(m.1.Z≠0∧m.2.1.X≠0∧m.2.2.Y≠0)∨(m.1.Z≠0∧m.2.1.Y≠0∧m.2.2.X≠0))
instance (m : V3) : Decidable (qdq m):=by unfold qdq;infer_instance
theorem qey : ∀ m∈tbl,qdq m:=by decide +kernel
theorem rowOk.one {a b c : Int} (h : rowOk a b c) : (a≠0→b = 0∧c = 0)∧(b≠0→a = 0∧c = 0)∧(c≠0→a = 0∧b = 0):=by unfold rowOk at h;omega
theorem qdr {α : Type} {m : V3} (h : qdq m) (A B C : α) (P : α→α→α→Prop)
    (F : Int→Int→Int→α) (q : ∀ a b c,(a≠0∧b = 0∧c = 0→F a b c = A)∧(a = 0∧b≠0∧c = 0→F a b c = B)∧(a = 0∧b = 0∧c≠0→F a b c = C))
    (p : P A B C∧P A C B∧P B A C∧P C A B∧P B C A∧P C B A) : P (F m.1.X m.2.1.X m.2.2.X) (F m.1.Y m.2.1.Y m.2.2.Y) (F m.1.Z m.2.1.Z m.2.2.Z):=by
  obtain ⟨⟨u,s,r⟩,t⟩:=h;have k:=u.one;have j:=s.one;have l:=r.one;have f1:=q m.1.X m.2.1.X m.2.2.X;have n:=q m.1.Y m.2.1.Y m.2.2.Y;have o:=q m.1.Z m.2.1.Z m.2.2.Z;rcases t with ⟨g,d,f⟩ | ⟨g,d,f⟩ | ⟨g,d,f⟩ | ⟨g,d,f⟩ | ⟨g,d,f⟩ | ⟨g,d,f⟩
  · rw [f1.1 ⟨g,(k.1 g)⟩,n.2.1 ⟨(j.2.1 d).1,d,(j.2.1 d).2⟩,o.2.2 ⟨(l.2.2 f).1,(l.2.2 f).2,f⟩];exact p.1
  · rw [f1.1 ⟨g,(k.1 g)⟩,o.2.1 ⟨(l.2.1 d).1,d,(l.2.1 d).2⟩,n.2.2 ⟨(j.2.2 f).1,(j.2.2 f).2,f⟩];exact p.2.1
  · rw [n.1 ⟨g,(j.1 g)⟩,f1.2.1 ⟨(k.2.1 d).1,d,(k.2.1 d).2⟩,o.2.2 ⟨(l.2.2 f).1,(l.2.2 f).2,f⟩];exact p.2.2.1
  · rw [n.1 ⟨g,(j.1 g)⟩,o.2.1 ⟨(l.2.1 d).1,d,(l.2.1 d).2⟩,f1.2.2 ⟨(k.2.2 f).1,(k.2.2 f).2,f⟩];exact p.2.2.2.1
  · rw [o.1 ⟨g,(l.1 g)⟩,f1.2.1 ⟨(k.2.1 d).1,d,(k.2.1 d).2⟩,n.2.2 ⟨(j.2.2 f).1,(j.2.2 f).2,f⟩];exact p.2.2.2.2.1
  · rw [o.1 ⟨g,(l.1 g)⟩,n.2.1 ⟨(j.2.1 d).1,d,(j.2.1 d).2⟩,f1.2.2 ⟨(k.2.2 f).1,(k.2.2 f).2,f⟩];exact p.2.2.2.2.2
theorem qgw (m : V3) (n : m∈tbl) (a : qw) (b : qh) (x y z : Int) (h : ltB b) : inB (boxM m a b) (uMap m a x y z).X (uMap m a x y z).Y (uMap m a x y z).Z↔inB b x y z:=by
  have hp:=qey m n;obtain ⟨o,l,f⟩:=hp.1;have g:=qi3 (x:=x) (y:=y) (z:=z) (t:=a.X) o h.1 h.2.1 h.2.2;have k:=qi3 (x:=x) (y:=y) (z:=z) (t:=a.Y) l h.1 h.2.1 h.2.2;have j:=qi3 (x:=x) (y:=y) (z:=z) (t:=a.Z) f h.1 h.2.1 h.2.2;unfold inB boxM q8r addV mulV uMap;simp only;rw [g,k,j]
  refine qdr hp (b.Lo.X≤x∧x < b.Hi.X) (b.Lo.Y≤y∧y < b.Hi.Y) (b.Lo.Z≤z∧z < b.Hi.Z) (fun p q r=>(p∧q∧r)↔_)
    (fun a d c=>(a≠0→b.Lo.X≤x∧x < b.Hi.X)∧(d≠0→b.Lo.Y≤y∧y < b.Hi.Y)∧(c≠0→b.Lo.Z≤z∧z < b.Hi.Z)) (fun a b c=>⟨fun h=>?_,fun h=>?_,fun h=>?_⟩) ?_
  · simp [h.1,h.2.1,h.2.2]
  · simp [h.1,h.2.1,h.2.2]
  · simp [h.1,h.2.1,h.2.2]
  · exact ⟨Iff.rfl,⟨fun h=>⟨h.1,h.2.2,h.2.1⟩,fun h=>⟨h.1,h.2.2,h.2.1⟩⟩,⟨fun h=>⟨h.2.1,h.1,h.2.2⟩,fun h=>⟨h.2.1,h.1,h.2.2⟩⟩,⟨fun h=>⟨h.2.1,h.2.2,h.1⟩,fun h=>⟨h.2.2,h.1,h.2.1⟩⟩,⟨fun h=>⟨h.2.2,h.1,h.2.1⟩,fun h=>⟨h.2.1,h.2.2,h.1⟩⟩,⟨fun h=>⟨h.2.2,h.2.1,h.1⟩,fun h=>⟨h.2.2,h.2.1,h.1⟩⟩⟩
theorem qnw (A B C : Int) (a b c : Int) : (a≠0∧b = 0∧c = 0→(if a = 0 then 0 else A) + (if b = 0 then 0 else B) + (if c = 0 then 0 else C) = A)∧(a = 0∧b≠0∧c = 0→(if a = 0 then 0 else A) + (if b = 0 then 0 else B) + (if c = 0 then 0 else C) = B)∧(a = 0∧b = 0∧c≠0→(if a = 0 then 0 else A) + (if b = 0 then 0 else B) + (if c = 0 then 0 else C) = C):=
  ⟨fun h=>by simp [h.1,h.2.1,h.2.2],fun h=>by simp [h.1,h.2.1,h.2.2],fun h=>by simp [h.1,h.2.1,h.2.2]⟩
theorem qkw (m : V3) (u : m∈tbl) (a : qw) (b : qh) (h : ltB b) : volB (boxM m a b) = volB b∧q10 (boxM m a b) = q10 b∧ltB (boxM m a b):=by
  have hp:=qey m u;obtain ⟨p,o,r⟩:=hp.1;have k:=qi2 (t:=a.X) p h.1 h.2.1 h.2.2;have l:=qi2 (t:=a.Y) o h.1 h.2.1 h.2.2;have n:=qi2 (t:=a.Z) r h.1 h.2.1 h.2.2
  have key:=qdr hp (b.Hi.X - b.Lo.X) (b.Hi.Y - b.Lo.Y) (b.Hi.Z - b.Lo.Z) (fun X Y Z=>X * Y * Z = (b.Hi.X - b.Lo.X) * (b.Hi.Y - b.Lo.Y) * (b.Hi.Z - b.Lo.Z)∧2 * (X * Y + X * Z + Y * Z) = 2 * ((b.Hi.X - b.Lo.X) * (b.Hi.Y - b.Lo.Y) + (b.Hi.X - b.Lo.X) * (b.Hi.Z - b.Lo.Z) + (b.Hi.Y - b.Lo.Y) * (b.Hi.Z - b.Lo.Z))∧0 < X∧0 < Y∧0 < Z)
    (fun a j c=>(if a = 0 then 0 else b.Hi.X - b.Lo.X) + (if j = 0 then 0 else b.Hi.Y - b.Lo.Y) + (if c = 0 then 0 else b.Hi.Z - b.Lo.Z)) (fun a b c=>qnw _ _ _ a b c) (by
      obtain ⟨w,g2,g3⟩:=h;generalize hx : b.Hi.X - b.Lo.X = x;generalize hy : b.Hi.Y - b.Lo.Y = y;generalize hz : b.Hi.Z - b.Lo.Z = z;have g : 0 < x:=by omega
      have f : 0 < y:=by omega
      have d : 0 < z:=by omega
      have c1:=Int.mul_comm x y;have c2:=Int.mul_comm x z;have c3:=Int.mul_comm y z
      refine ⟨⟨rfl,rfl,g,f,d⟩,⟨?_,?_,g,d,f⟩,⟨?_,?_,f,g,d⟩,⟨?_,?_,d,g,f⟩,⟨?_,?_,f,d,g⟩,⟨?_,?_,d,f,g⟩⟩ <;>
        first | (simp only [Int.mul_assoc,Int.mul_left_comm,Int.mul_comm];done) | omega)
  unfold volB q10 ltB boxM q8r addV mulV;simp only;rw [k,l,n];refine ⟨key.1,key.2.1,?_⟩;have v:=key.2.2.1;have s:=key.2.2.2.1;have q:=key.2.2.2.2;rw [← k] at v;rw [← l] at s;rw [← n] at q;omega
theorem q5t (x y z X Y Z : Int) (h : (X = x∧Y = y∧Z = z)∨(X = x∧Y = z∧Z = y)∨(X = y∧Y = x∧Z = z)∨(X = z∧Y = x∧Z = y)∨(X = y∧Y = z∧Z = x)∨(X = z∧Y = y∧Z = x)) :
    (if X = 0∧Y > 0∧Z > 0 then Y * Z else if X > 0∧Y = 0∧Z > 0 then X * Z else if X > 0∧Y > 0∧Z = 0 then X * Y else 0) = (if x = 0∧y > 0∧z > 0 then y * z else if x > 0∧y = 0∧z > 0 then x * z else if x > 0∧y > 0∧z = 0 then x * y else 0):=by
  have c1:=Int.mul_comm x y;have c2:=Int.mul_comm x z;have c3:=Int.mul_comm y z
  rcases h with ⟨rfl,rfl,rfl⟩ | ⟨rfl,rfl,rfl⟩ | ⟨rfl,rfl,rfl⟩ | ⟨rfl,rfl,rfl⟩ | ⟨rfl,rfl,rfl⟩ | ⟨rfl,rfl,rfl⟩ <;>
    (repeat' split) <;> omega
theorem qth (m : V3) (o : m∈tbl) (a : qw) (b c : qh) (hb : ltB b) (d : ltB c) : J0 (boxM m a b) (boxM m a c) = J0 b c:=by
  have hp:=qey m o;obtain ⟨p,n,h⟩:=hp.1;have j:=qi7 (t:=a.X) p hb.1 hb.2.1 hb.2.2 d.1 d.2.1 d.2.2;have l:=qi7 (t:=a.Y) n hb.1 hb.2.1 hb.2.2 d.1 d.2.1 d.2.2;have k:=qi7 (t:=a.Z) h hb.1 hb.2.1 hb.2.2 d.1 d.2.1 d.2.2;unfold J0 boxM q8r addV mulV;simp only;rw [j,l,k]
  refine qdr hp (min b.Hi.X c.Hi.X - max b.Lo.X c.Lo.X) (min b.Hi.Y c.Hi.Y - max b.Lo.Y c.Lo.Y) (min b.Hi.Z c.Hi.Z - max b.Lo.Z c.Lo.Z)
    (fun X Y Z=>(if X = 0∧Y > 0∧Z > 0 then Y * Z else if X > 0∧Y = 0∧Z > 0 then X * Z else if X > 0∧Y > 0∧Z = 0 then X * Y else 0) = _)
    (fun a g f=>(if a = 0 then 0 else min b.Hi.X c.Hi.X - max b.Lo.X c.Lo.X) + (if g = 0 then 0 else min b.Hi.Y c.Hi.Y - max b.Lo.Y c.Lo.Y) + (if f = 0 then 0 else min b.Hi.Z c.Hi.Z - max b.Lo.Z c.Lo.Z)) (fun a b c=>qnw _ _ _ a b c) ?_
  exact ⟨q5t _ _ _ _ _ _ (.inl ⟨rfl,rfl,rfl⟩),q5t _ _ _ _ _ _ (.inr (.inl ⟨rfl,rfl,rfl⟩)),q5t _ _ _ _ _ _ (.inr (.inr (.inl ⟨rfl,rfl,rfl⟩))),q5t _ _ _ _ _ _ (.inr (.inr (.inr (.inl ⟨rfl,rfl,rfl⟩)))),q5t _ _ _ _ _ _ (.inr (.inr (.inr (.inr (.inl ⟨rfl,rfl,rfl⟩))))),q5t _ _ _ _ _ _ (.inr (.inr (.inr (.inr (.inr ⟨rfl,rfl,rfl⟩)))))⟩
theorem q15z : ∀ p∈tbl2,∀ (a : qw) (x y z : Int),uMap p.2 ⟨-(mulV p.2 a).X,-(mulV p.2 a).Y,-(mulV p.2 a).Z⟩ (uMap p.1 a x y z).X (uMap p.1 a x y z).Y (uMap p.1 a x y z).Z = ⟨x,y,z⟩∧
    uMap p.1 a (uMap p.2 ⟨-(mulV p.2 a).X,-(mulV p.2 a).Y,-(mulV p.2 a).Z⟩ x y z).X (uMap p.2 ⟨-(mulV p.2 a).X,-(mulV p.2 a).Y,-(mulV p.2 a).Z⟩ x y z).Y (uMap p.2 ⟨-(mulV p.2 a).X,-(mulV p.2 a).Y,-(mulV p.2 a).Z⟩ x y z).Z = ⟨x,y,z⟩:=by
  intro p hp;simp only [tbl2,List.mem_cons,List.not_mem_nil,or_false] at hp
  rcases hp with rfl | rfl | rfl | rfl | rfl | rfl | rfl | rfl | rfl | rfl | rfl | rfl | rfl | rfl | rfl | rfl | rfl | rfl | rfl | rfl | rfl | rfl | rfl | rfl <;>
    (intro a x y z;unfold uMap mulV;simp only [qw.mk.injEq];omega)
noncomputable def invF (t : Nat) (a : qw) : qw:=⟨-(mulV (axT (invI t)) a).X,-(mulV (axT (invI t)) a).Y,-(mulV (axT (invI t)) a).Z⟩
theorem qqs {t : Nat} (h : t < 24) (a : qw) (x y z : Int) : uMap (axT t) a (uMap (axT (invI t)) (invF t a) x y z).X (uMap (axT (invI t)) (invF t a) x y z).Y (uMap (axT (invI t)) (invF t a) x y z).Z = ⟨x,y,z⟩:=(q15z _ (qmd t h) a x y z).2
theorem qgq {t : Nat} (h : t < 24) (a : qw) {l : List qh} (g : ∀ b∈l,ltB b) (x y z : Int) : hasB (l.map (Yb t a)) (uMap (axT t) a x y z).X (uMap (axT t) a x y z).Y (uMap (axT t) a x y z).Z↔hasB l x y z:=by
  have f:=q2n t h;constructor
  · rintro ⟨c,j,d⟩;obtain ⟨b,hb,rfl⟩:=List.mem_map.1 j;exact ⟨b,hb,(qgw _ f a b x y z (g b hb)).1 d⟩
  · rintro ⟨b,hb,d⟩;exact ⟨Yb t a b,List.mem_map_of_mem hb,(qgw _ f a b x y z (g b hb)).2 d⟩
theorem qt6 {t : Nat} (h : t < 24) (a : qw) {l : List qh} (c : ∀ b∈l,ltB b) (x y z : Int) : cntB (l.map (Yb t a)) (uMap (axT t) a x y z).X (uMap (axT t) a x y z).Y (uMap (axT t) a x y z).Z = cntB l x y z:=by
  unfold cntB;rw [qeu];exact Uf fun b hb=>Uo (qgw _ (q2n t h) a b x y z (c b hb))
theorem qt8 {t : Nat} (h : t < 24) (a : qw) {l : List qh} (d : ∀ b∈l,ltB b) (g : ∀ x y z,cntB l x y z = ind (hasB l x y z)) (x y z : Int) : cntB (l.map (Yb t a)) x y z = ind (hasB (l.map (Yb t a)) x y z):=by
  have e:=qqs h a x y z;generalize uMap (axT (invI t)) (invF t a) x y z = w at e;have c:=qt6 h a d w.X w.Y w.Z;have f:=qgq h a d w.X w.Y w.Z;rw [e] at c f;rw [c,g,Uo f]
theorem q167 {t : Nat} (h : t < 24) (a : qw) {l : List qh} (c : ∀ b∈l,ltB b) : volL (l.map (Yb t a)) = volL l:=by
  unfold volL;rw [qeu];exact Uf fun b hb=>(qkw _ (q2n t h) a b (c b hb)).1
theorem qno {f : qh→qh→Int} {g : qh→qh} {l : List qh} (a : ∀ b∈l,∀ c∈l,f (g b) (g c) = f b c) : ∀ n,q1f f (l.map g) n = q1f f l n
  | 0=>rfl
  | n + 1=>by
    rw [q1f,q1f,qno a n]
    congr 1
    rw [List.getElem?_map]
    cases h : l[n]? with
    | none=>rfl
    | some b=>
      simp only [Option.map_some]
      rw [← List.map_take,qeu]
      exact Uf fun c d=>a b (List.mem_of_getElem? h) c (List.mem_of_mem_take d)
theorem q15c {t : Nat} (h : t < 24) (a : qw) {l : List qh} (d : ∀ b∈l,ltB b) : q3w (l.map (Yb t a)) = q3w l:=by
  unfold q3w;rw [qeu,List.length_map,qno (g:=Yb t a) (f:=J0) (fun b hb c j=>qth _ (q2n t h) a b c (d b hb) (d c j))];rw [Uf (f:=fun b=>q10 (Yb t a b)) (g:=q10) fun b hb=>(qkw _ (q2n t h) a b (d b hb)).2.1]
theorem qhr {p : List qh} (hp : Qy p = 0) {f : K0} (s : FOk f) (u : 0≤f.Turn) : (place p f = ([],16)∧¬ ∀ b∈p,vB (Yb f.Turn.toNat f.At b))∨place p f = ([],4)∨
    (∃ q,place p f = (q,0)∧Qy q = 0∧(∀ b∈p.map (Yb f.Turn.toNat f.At),vB b)∧(∀ x y z,hasB q x y z↔hasB (p.map (Yb f.Turn.toNat f.At)) x y z)∧volL q = volL p∧q3w q = q3w p):=by
  obtain ⟨v,t,o⟩:=Y8.1 hp;have j : f.Turn.toNat < 24:=by have:=s.1;omega
  unfold place;rw [qp (by simp [hp]),qp (by simp [s])];by_cases m : ∀ b∈p,vB (Yb f.Turn.toNat f.At b)
  · rw [qr m]
    have d : ∀ b∈p.map (Yb f.Turn.toNat f.At),vB b:=fun b hb=>by
      obtain ⟨c,o,rfl⟩:=List.mem_map.1 hb;exact m c o
    have g : ∀ b∈p,ltB b:=fun b hb=>(qf1 (t b hb)).1;unfold mkB;rw [qp (by simp;omega),qr d];by_cases r : 400 < (mrgB 2 (p.map (Yb f.Turn.toNat f.At)) []).length
    · rw [qr r];exact .inr (.inl rfl)
    · rw [qp r];have n : (p.map (Yb f.Turn.toNat f.At)).length≤100000:=by simp;omega
      have a:=q6j 2 (p:=p.map (Yb f.Turn.toNat f.At)) (q:=[]) (by simp;omega);have h:=qgo n;have k:=a.vB (InB.mrg (by simp;omega) (qf2 d) InB.nil);have l:=qt8 j f.At g o.cnt;refine .inr (.inr ⟨_,rfl,Y8.2 ⟨q6,k,a⟩,d,h,?_,?_⟩)
      · have e : cnt3 1000000 (hasB (mrgB 2 (p.map (Yb f.Turn.toNat f.At)) [])) = cnt3 1000000 (hasB (p.map (Yb f.Turn.toNat f.At))):=qt4 fun x y z _ _ _=>h x y z;rw [qr0 a k,e,← q167 j f.At g,qj5 (N:=1000000) l fun b hb=>by have:=qf1 (d b hb);unfold vBN ltB at this;omega]
      · rw [q15b a k,← q15c j f.At g,qqa l fun b hb=>qf1 (d b hb)];have : hasB (mrgB 2 (p.map (Yb f.Turn.toNat f.At)) []) = hasB (p.map (Yb f.Turn.toNat f.At)):=by funext x y z;exact propext (h x y z)
        rw [this]
  · rw [qp m];exact .inl ⟨rfl,m⟩
end Go.Sh
