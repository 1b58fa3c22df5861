/- Ru2 Rh11 -/
import Derived.Test.YtmekakoiicomaaaGreatK13
namespace Go.Sh
open Go Go.Am
def badH (s : Kk) : Bool:=decide (s.Height < 1) || decide (s.Height > 1000000)
theorem q160 (s : Kk) : q2v s = some (badH s):=by
  unfold q2v badH;by_cases h : s.Height < 1 <;> simp [h]
theorem q162 (l : List Kk) (j : l.length≤100) : qb0 l (fun a=>q2v a) = some (l.any badH):=by
  have hs : ∀ (k : Nat) (h : k < l.length),q5n l (fun a=>q2v a) (k : Int) = some (if badH l[k] = true then .inr (.inr (k : Int)) else .inl ((k + 1 : Nat) : Int)):=by
    intro k h;simp only [q5n,dlt h,Q5,K3 h,qn,w64s h (by omega : l.length≤1000000),q160];cases badH l[k] <;> simp
  have hd : q5n l (fun a=>q2v a) (l.length : Int) = some (.inr (.inl ())):=by simp only [q5n,dnl,Q4]
  unfold qb0 qf5;rcases q1u l badH (fun k _=>(k : Int)) () _ hs hd with ⟨d,b⟩ | ⟨k,c,f,_,b⟩
  · rw [b]
    have : l.any badH = false:=by
      rw [List.any_eq_false];intro x g;simp [d x g]
    rw [this];rfl
  · rw [b];have : l.any badH = true:=List.any_eq_true.2 ⟨_,Kf c,f⟩;rw [this];simp only [qn];rw [Qr q6]
theorem q161 {l : List Kk} (c : l.length≤100) (b : ∀ s∈l,Kr s.Region = 0) : loop (q5d l) 0 = some (.inl ()):=
  Z6 (f:=q5d l) (fun k=>(k : Int)) l.length _ (fun k a=>by
    simp only [q5d,dlt a,Q5,K3 a,qn,w64s a (by omega : l.length≤1000000),qao,b _ (Kf a)];rfl) (by simp only [q5d,dnl,Q4]) (Nat.zero_le _)
noncomputable def qd1 (l : List Kk) (z : Int) : List qk:=(Qv putB Qt (Ye z l)).flat putB
theorem q16c {l : List Kk} {z : Int} {x : Int × Int × List qf} (b : x∈Ye z l) : ∃ s∈l,x.2.2 = s.Region:=by
  obtain ⟨k,a,rfl⟩:=List.getElem_of_mem b;rw [qip] at a;rw [qio l z k a];exact ⟨_,Kf a,rfl⟩
theorem q163 {l : List Kk} {z : Int} (hn : l.length≤100) (v : q17 z) (m : ∀ s∈l,1≤s.Height∧s.Height≤1000000) (n : ∀ s∈l,s.Region.length≤400) (j : ∀ k,k≤l.length→zAt z l k≤1000000) :
    loop (q5e l) (z,0,[],0,0,[]) = some (.inl ((Qv putB Qt (Ye z l)).sec,((Qv putB Qt (Ye z l)).done.length : Int),(Qv putB Qt (Ye z l)).hi,qd1 l z)):=by
  have b:=qip l z
  have p : ∀ t∈Ye z l,t.2.2.length≤400:=fun x y=>by
    obtain ⟨s,hs,e⟩:=q16c y;rw [e];exact n s hs
  have g : ∀ i,((Qv putB Qt ((Ye z l).take i)).flat putB).length≤40000:=fun i=>by
    have u:=q9l putB (s0:=Qt) (M:=400) (steps:=(Ye z l).take i) (fun t q=>p t (List.mem_of_mem_take q));have h : ((Ye z l).take i).length≤100:=by rw [List.length_take];omega
    have w : (Qt.flat putB : List qk).length = 0:=rfl;have r : ((Ye z l).take i).length * 400≤100 * 400:=Nat.mul_le_mul_right _ h;omega
  have c : ∀ k,k≤l.length→-1000000≤zAt z l k:=by
    intro k
    induction k with
    | zero=>intro _;rw [qfk];exact v.1
    | succ k ih=>
      intro a;rw [qj5 l z k q6];have:=m _ (Kf (by omega : k < l.length));have:=ih q6;omega
  have key:=Z6 (f:=q5e l) (fun k=>(zAt z l k,(k : Int),(Qv putB Qt ((Ye z l).take k)).sec,((Qv putB Qt ((Ye z l).take k)).done.length : Int),(Qv putB Qt ((Ye z l).take k)).hi,(Qv putB Qt ((Ye z l).take k)).flat putB)) l.length
    (.inl ((Qv putB Qt (Ye z l)).sec,((Qv putB Qt (Ye z l)).done.length : Int),(Qv putB Qt (Ye z l)).hi,(Qv putB Qt (Ye z l)).flat putB)) (fun k a=>by
      have hr:=n _ (Kf a);have hm:=g k;have u:=j (k + 1) q6;have hd : decide (zAt z l (k + 1) > 1000000) = false:=Qs q6
      have ha : w64 (zAt z l k + l[k].Height) = zAt z l (k + 1):=by
        have h:=c k q6;have w:=m _ (Kf a);have r:=j k q6;rw [Qm q6,qj5 l z k a]
      have d:=qoq (Qv putB Qt ((Ye z l).take k)) (zAt z l k) (zAt z l (k + 1)) l[k].Region q6;rw [q2m putB (by omega : k < (Ye z l).length),qio l z k a]
      simp only [q5e,dlt a,Q5,K3 a,qn,ha,hd,Q4,d,w64s a (by omega : l.length≤1000000)]) (by
      rw [← b,List.take_length,b]
      simp only [q5e,dnl,Q4]) (Nat.zero_le _)
  have o:=qfk z l;simp only [List.take_zero,o] at key;exact key
theorem q164 {l : List Kk} {z : Int} (b : l.length≤100) (f : q17 z) (d : ∀ s∈l,Kr s.Region = 0) (c : ∀ s∈l,1≤s.Height∧s.Height≤1000000) (g : ∀ k,k≤l.length→zAt z l k≤1000000) (h : (qd1 l z).length≤400) :
    q5c l z = some (qd1 l z,0):=by
  unfold q5c;have : decide ((l.length : Int) > 100) = false:=Qs q6;rw [this,Q4,q161 b d]
  have a : l.any badH = false:=by
    rw [List.any_eq_false];intro s hs;have:=c s hs;simp only [badH,Bool.or_eq_true,decide_eq_true_eq];omega
  simp only [qn,qoa,q162 l b,a,Qr f,Bool.not_true,Q4,q163 b f c (fun s hs=>(q2j.1 (d s hs)).1) g];rw [Qs (by omega : ¬ ((qd1 l z).length : Int) > 400)];rfl
def q17d : K0 × K0 × K0 × K0 × K0 × K0:=(Z2,Z2,Z2,Z2,Z2,Z2)
theorem qzh {s : K0} (c : 0≤s.Frame.Turn) : qam s = some (if SOk s then 0 else 8):=by
  unfold qam;by_cases hs : SOk s
  · obtain ⟨u,b⟩ : ∃ u : Nat,s.Frame.Turn = u:=⟨s.Frame.Turn.toNat,q6⟩
    have h : Jx s ⟨0,0,0⟩ ⟨0,0,0⟩ ((0 : Nat) : Int) = _:=qj9 (t:=0) b hs q6 (by unfold InV;simp) (by unfold InV;simp);have a : u < 24:=by have:=hs.1.1;omega
    rw [qsm u a,quf,← b,Q1 hs.1] at h;have h : Jx s ⟨0,0,0⟩ ⟨0,0,0⟩ 0 = some (⟨⟨s.Frame.Turn,s.Frame.At⟩,⟨0,0,0⟩⟩,0):=h;rw [h,Q1 hs];rfl
  · rw [qqj hs,Q2 hs];rfl
theorem qtg (s : K0) : Ux s.Size 0 = some (10,⟨s.Size.X,0,0⟩,⟨s.Size.Y,s.Size.Z,0⟩):=rfl
theorem qth (s : K0) : Ux s.Size 1 = some (11,⟨0,0,s.Size.Z⟩,⟨s.Size.Y,s.Size.Z,0⟩):=rfl
theorem qti (s : K0) : Ux s.Size 2 = some (3,⟨0,s.Size.Y,s.Size.Z⟩,⟨s.Size.X,s.Size.Z,0⟩):=rfl
theorem qtj (s : K0) : Ux s.Size 3 = some (2,⟨0,0,0⟩,⟨s.Size.X,s.Size.Z,0⟩):=rfl
theorem qtk (s : K0) : Ux s.Size 4 = some (0,⟨0,0,s.Size.Z⟩,⟨s.Size.X,s.Size.Y,0⟩):=rfl
theorem qtl (s : K0) : Ux s.Size 5 = some (1,⟨0,s.Size.Y,0⟩,⟨s.Size.X,s.Size.Y,0⟩):=rfl
theorem qzl {s : K0} {d : Int} {t : Int} {at_ flat : Q0} {out : List K0} {r : K0 × Int} (hd : d < 6) (a : Ux s.Size d = some (t,at_,flat)) (hi : Jx s at_ flat t = some r) (g : ∃ v,idxA 6 out d = some v) :
    q3i (d,out,s.Frame.Turn,s.Frame.At.X,s.Frame.At.Y,s.Frame.At.Z,s.Size.X,s.Size.Y,s.Size.Z) =
      cond (r.2 != 0) (some (.inr (.inr (q17d,r.2)))) (some (.inl (w64 (d + 1),out.set d.toNat r.1,s.Frame.Turn,s.Frame.At.X,s.Frame.At.Y,s.Frame.At.Z,s.Size.X,s.Size.Y,s.Size.Z))):=by
  obtain ⟨v,b⟩:=g
  have e : qak d s.Frame.Turn s.Frame.At.X s.Frame.At.Y s.Frame.At.Z s.Size.X s.Size.Y s.Size.Z out = some (r.2,s.Frame.Turn,s.Frame.At.X,s.Frame.At.Y,s.Frame.At.Z,s.Size.X,s.Size.Y,s.Size.Z,out.set d.toNat r.1):=by
    unfold qak;have f : Ux ({X:=s.Size.X,Y:=s.Size.Y,Z:=s.Size.Z} : Q0) d = some (t,at_,flat):=a;have c : Jx ({Frame:=({Turn:=s.Frame.Turn,At:=({X:=s.Frame.At.X,Y:=s.Frame.At.Y,Z:=s.Frame.At.Z} : Q0)} : Ka),Size:=({X:=s.Size.X,Y:=s.Size.Y,Z:=s.Size.Z} : Q0)} : K0) at_ flat t = some r:=hi;simp only [f,c,b,qn]
  unfold q3i;simp only [Qr hd,Q5,e,qn];rfl
theorem idx6 {out : List K0} (h : out.length = 6) {k : Nat} (a : k < 6) : ∃ v,idxA 6 out (k : Int) = some v:=by
  unfold idxA;rw [Q1 ⟨q6,q6⟩];exact ⟨_,List.getElem?_eq_getElem (by simpa using (by omega : k < out.length))⟩
def Z7 : K0:=⟨⟨0,⟨0,0,0⟩⟩,⟨2,3,4⟩⟩
theorem qsn : ∀ t : Nat,t < 24→Uh t 0 = t:=by decide +kernel
theorem que (a : Q0) : J5 0 ⟨0,0,0⟩ a = a:=by
  obtain ⟨x,y,z⟩:=a;unfold J5 addV mulV;rw [qr3];simp
theorem q16n (t : Nat) (a z : Q0) (h : t < 24) (b : InV a (-1000000)) (c : InV z 0) : Jx Z7 a z (t : Int) = some (⟨⟨(t : Int),a⟩,z⟩,0):=by
  have:=qj9 (s:=Z7) (u:=0) (t:=t) rfl qy h b c;rw [qsn t h] at this;rw [this,show Z7.Frame.At = ⟨0,0,0⟩ from rfl,que,Q1 ⟨by simp only;omega,b⟩]
theorem qtm : ∃ f1 l o g,qaj Z7 = some ((⟨⟨10,⟨2,0,0⟩⟩,⟨3,4,0⟩⟩,f1,l,o,⟨⟨0,⟨0,0,4⟩⟩,⟨2,3,0⟩⟩,g),0):=by
  have st : ∀ (k t : Nat) (a z : Q0) (out : List K0),k < 6→t < 24→InV a (-1000000)→InV z 0→Ux Z7.Size (k : Int) = some ((t : Int),a,z)→out.length = 6→
      q3i ((k : Int),out,0,0,0,0,2,3,4) = some (.inl (((k + 1 : Nat) : Int),out.set k ⟨⟨(t : Int),a⟩,z⟩,0,0,0,0,2,3,4)):=by
    intro k t a z out m h n p c f
    have:=qzl (s:=Z7) (d:=(k : Int)) q6 c (q16n t a z h n p) (idx6 f m)
    have b : w64 ((k : Int) + 1) = ((k + 1 : Nat) : Int):=by rw [Qm q6];omega
    rw [b] at this
    exact this
  refine ⟨⟨⟨11,⟨0,0,4⟩⟩,⟨3,4,0⟩⟩,⟨⟨3,⟨0,3,4⟩⟩,⟨2,4,0⟩⟩,⟨⟨2,⟨0,0,0⟩⟩,⟨2,4,0⟩⟩,⟨⟨1,⟨0,3,0⟩⟩,⟨2,3,0⟩⟩,?_⟩;unfold qaj;rw [qzh qy,Q1 qy];have j : ((0 : Int) != 0) = false:=rfl;simp only [qn,j,Q4]
  have e : loop q3i (((0 : Nat) : Int),[Z2,Z2,Z2,Z2,Z2,Z2],0,0,0,0,2,3,4) = some (.inl [⟨⟨10,⟨2,0,0⟩⟩,⟨3,4,0⟩⟩,⟨⟨11,⟨0,0,4⟩⟩,⟨3,4,0⟩⟩,⟨⟨3,⟨0,3,4⟩⟩,⟨2,4,0⟩⟩,⟨⟨2,⟨0,0,0⟩⟩,⟨2,4,0⟩⟩,⟨⟨0,⟨0,0,4⟩⟩,⟨2,3,0⟩⟩,⟨⟨1,⟨0,3,0⟩⟩,⟨2,3,0⟩⟩]):=by
    rw [Kn (st 0 10 _ _ _ q6 q6 qy qy (qtg Z7) rfl)];rw [Kn (st 1 11 _ _ _ q6 q6 qy qy (qth Z7) rfl)];rw [Kn (st 2 3 _ _ _ q6 q6 qy qy (qti Z7) rfl)];rw [Kn (st 3 2 _ _ _ q6 q6 qy qy (qtj Z7) rfl)];rw [Kn (st 4 0 _ _ _ q6 q6 qy qy (qtk Z7) rfl)];rw [Kn (st 5 1 _ _ _ q6 q6 qy qy (qtl Z7) rfl)];exact Km rfl
  replace e : loop q3i (0,[Z2,Z2,Z2,Z2,Z2,Z2],0,0,0,0,2,3,4) = some (.inl [⟨⟨10,⟨2,0,0⟩⟩,⟨3,4,0⟩⟩,⟨⟨11,⟨0,0,4⟩⟩,⟨3,4,0⟩⟩,⟨⟨3,⟨0,3,4⟩⟩,⟨2,4,0⟩⟩,⟨⟨2,⟨0,0,0⟩⟩,⟨2,4,0⟩⟩,⟨⟨0,⟨0,0,4⟩⟩,⟨2,3,0⟩⟩,⟨⟨1,⟨0,3,0⟩⟩,⟨2,3,0⟩⟩]):=e;unfold Z2 at e;rw [show Z7.Frame.Turn = 0 from rfl,show Z7.Frame.At.X = 0 from rfl,show Z7.Frame.At.Y = 0 from rfl,show Z7.Frame.At.Z = 0 from rfl,show Z7.Size.X = 2 from rfl,show Z7.Size.Y = 3 from rfl,show Z7.Size.Z = 4 from rfl,e];rfl
def rc (a b c d : Int) : qf:={X0:=a,Y0:=b,X1:=c,Y1:=d}
def stL : List Kk:=[{Region:=[rc 0 0 2 2],Height:=1},{Region:=[rc 0 0 1 1],Height:=2}]
def stB : List qk:=[bx 0 0 0 2 2 1,bx 0 0 1 1 1 3]
theorem qjz {l : List qf} (h : l.length≤400∧(∀ r∈l,vR r)∧isR l) : Kr l = 0:=q2j.2 ⟨h.1,h.2.1,h.2.2.can⟩
theorem q15z : ∀ s∈stL,Kr s.Region = 0:=by
  intro s hs;simp only [stL,List.mem_cons,List.not_mem_nil,or_false] at hs;rcases hs with rfl | rfl <;> exact qjz qy
theorem qpv : qd1 stL 0 = stB:=rfl
theorem qqq : q9v = some true:=by
  have g : Kh stB = 0:=qjy qy
  have hp : q77 [rc 0 0 2 3] 1 5 = some ([bx 0 0 1 2 3 5],0):=by
    rw [qzd,qhx,Q2 (by rw [qjz qy];simp),Q1 (by unfold q17;omega)];rfl
  have d : Kh [bx 0 0 1 2 3 5] = 0:=qjy qy;have j : volume [bx 0 0 1 2 3 5] = (24,0):=by unfold volume;rw [Q2 (by simp [d])];rfl
  have b : volume stB = (6,0):=by unfold volume;rw [Q2 (by simp [g])];rfl
  have c : q5c stL 0 = some (stB,0):=by
    rw [q164 qy (by unfold q17;omega) q15z qy (fun k m=>?_) (by rw [qpv];decide),qpv];have : k = 0∨k = 1∨k = 2:=by have : stL.length = 2:=rfl;omega
    rcases this with rfl | rfl | rfl <;> decide
  have a : column stB 0 0 = ([{Lo:=0,Hi:=3}],0):=by
    unfold column;rw [Q2 (by simp [g]),show colS stB 0 0 = [{Lo:=0,Hi:=1},{Lo:=1,Hi:=3}] from rfl];have f:=(q4h 2 [({Lo:=0,Hi:=1} : ql),{Lo:=1,Hi:=3}] [] qg qg).2
    have : Zw 2 [({Lo:=0,Hi:=1} : ql),{Lo:=1,Hi:=3}] [] = [{Lo:=0,Hi:=3}]:=q35 f.1 (by unfold Can;simp) fun x=>by
      rw [f.2,qh0];unfold has;simp;omega
    rw [this]
  obtain ⟨f1,l,n,o,h⟩:=qtm;unfold q9v
  simp only [show q3e 0 0 2 3 = some [rc 0 0 2 3] from rfl,show q3e 0 0 2 2 = some [rc 0 0 2 2] from rfl,show q3e 0 0 1 1 = some [rc 0 0 1 1] from rfl,show qe3 = some Z7 from rfl,qn,hp,q15c,j,h,
    show q5c [({Region:=[rc 0 0 2 2],Height:=1} : Kk),({Region:=[rc 0 0 1 1],Height:=2} : Kk)] 0 = some (stB,0) from c,b,qz8,a,qi8 [{Lo:=0,Hi:=3}] [{Lo:=0,Hi:=3}] qg]
  rfl
end Go.Sh
namespace Go.Sh
open Go Go.Am
theorem qzo (r : qf) (x y : Int) : q5f r x y = some (decide (r.X0≤x∧x < r.X1∧r.Y0≤y∧y < r.Y1)):=by
  unfold q5f;by_cases a : r.X0≤x <;> by_cases c : x < r.X1 <;> by_cases b : r.Y0≤y <;> by_cases d : y < r.Y1 <;> simp [a,c,b,d]
open Classical in
theorem qzq (l : List qf) (x y : Int) (d : l.length≤1000000) : qap l x y = some (decide (hasR l x y)):=by
  unfold qap q5k qb1
  rcases q1u l (fun r=>decide (r.X0≤x∧x < r.X1∧r.Y0≤y∧y < r.Y1)) (fun k _=>(k : Int)) () (q2d l (fun b=>q5f b x y)) (fun k a=>by
    simp only [q2d,dlt a,Q5,K3 a,qn,qzo,w64s a d]
    by_cases c : l[k].X0≤x∧x < l[k].X1∧l[k].Y0≤y∧y < l[k].Y1 <;> simp [c]) (by simp only [q2d,dnl,Q4]) with ⟨h1,h2⟩ | ⟨k,a,hc,_,h2⟩
  · rw [h2];have : ¬ hasR l x y:=fun ⟨r,hr,h⟩=>by have:=h1 r hr;simp [h] at this
    rw [Qs this];rfl
  · rw [h2];have : hasR l x y:=⟨l[k],Kf a,of_decide_eq_true hc⟩
    rw [Qr this];simp
open Classical in
theorem q17m (p : List qk) (d : Int) (v : Q0) : qe2 p d v = some true:=by
  unfold qe2;rw [qqq];simp only [qn,qyy,Bool.not_true];by_cases h1 : p.length > 30
  · rw [Qr (by omega : (p.length : Int) > 30)];rfl
  rw [Qs (by omega : ¬ (p.length : Int) > 30),Q4];by_cases a : ¬ Kh p = 0
  · have : (Kh p != 0) = true:=by simpa using a
    rw [this];rfl
  replace a:=Classical.not_not.1 a;rw [a];by_cases s : d < 1
  · rw [Qr s];rfl
  rw [Qs s];by_cases o : d > 50
  · rw [Qr o];rfl
  rw [Qs o];obtain ⟨q,n,c,u⟩:=quc a q6 (d:=d) q6;have l:=q98 a v.Z;have w:=Jb p v.Z;have f:=(J1.1 a).2.2;have m:=qp4 l q6 (d:=d) q6;have k : qez p v.Z = (atB p v.Z,0):=by unfold qez;rw [Q2 (by simpa using a)]
  have b : ∀ x y z,hasB q x y z→hasB p x y z:=fun x y z h=>by
    rw [← q23,c] at h;rw [← q23];exact q11s (f.at z) (by have:=Jb p z;omega) q6 h
  simp only [bne_self_eq_false,qn,Q4,u,q15a,k,m,qp2];by_cases r : 400 < q.length
  · rw [Q1 r];rfl
  rw [Q2 r];have aa : (shrS d (atB p v.Z)).length≤q.length:=by rw [← c];exact Jb q v.Z
  rw [Q2 q6];have g : Kh q = 0:=J1.2 ⟨q6,n.vB fun x y z h=>q16r (J1.1 a).2.1 x y z (b x y z h),n⟩
  have j : jB 3 q p = ([],0):=qun g a .nil qg fun x y z=>by
    rw [qh2];exact ⟨fun h=>absurd (b x y z h.1) h.2,fun h=>absurd h (qdy x y z)⟩
  have t : decide (hasB q v.X v.Y v.Z) = decide (hasR (shrS d (atB p v.Z)) v.X v.Y):=by
    rw [← c];exact decide_eq_decide.2 q23.symm
  simp only [bne_self_eq_false,Q4,qn,q158,j,g,beq_self_eq_true,Q5,q156 q v q6,qzq _ v.X v.Y (by omega : (shrS d (atB p v.Z)).length≤1000000),t];rfl
end Go.Sh
