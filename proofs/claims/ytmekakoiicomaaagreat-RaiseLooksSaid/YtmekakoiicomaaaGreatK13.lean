/- Rh7 Rh8 Rh9 Rh12 Rh13 Su16 Rh14 Pt8a Rh10 Pt6a Ru1 Ru2 Rh11 -/
import Derived.Test.YtmekakoiicomaaaGreatK12
namespace Go.Sh
open Go Go.Am
theorem qpd {x y g h a f d c b j : Int} {L : Prop} (l : g = f) (o : h = d) (r : a≤c) (v : c < b) (m : y < j) (n : ¬ (f≤x∧x < d∧c≤y∧y < b)) :
    ((x < g∨x < h∧y < a)∨(f≤x∧x < d∧a≤y∧y < c)∨(L∧f≤x∧x < d∧b≤y∧y < j))↔(x < f∨x < d∧(y < b∨L)):=by
  subst l o;by_cases c1 : x < g
  · simp [c1]
  · by_cases c2 : x < h
    · have c3 : g≤x:=by omega
      simp only [c1,c2,c3,m,true_and,false_or,and_true] at n ⊢;by_cases c4 : y < b
      · simp only [c4,true_or,iff_true];by_cases k : y < a
        · exact .inl k
        · exact .inr (.inl ⟨q6,q6⟩)
      · have k : ¬ y < a:=by omega
        have q : ¬ (a≤y∧y < c):=by omega
        have p : b≤y:=by omega
        simp [c4,k,q,p]
    · simp [c1,c2]
theorem qpc {x y j d a b f c g h : Int} {L : Prop} (u : d≤a) (w : j < d) (v : a < b) (t : f < c) (m : g≤y) (l : y < h) (n : ¬ (a≤x∧x < b∧f≤y∧y < c)) :
    ((x < j∨x < d)∨(d≤x∧x < a∧g≤y∧y < h)∨(a≤x∧x < b∧g≤y∧y < f)∨(L∧a≤x∧x < b∧c≤y∧y < h))↔(x < a∨x < b∧(y < c∨L)):=by
  by_cases c1 : x < a
  · simp only [c1,true_or,iff_true,m,l];by_cases c2 : x < d
    · exact .inl (.inr c2)
    · exact .inr (.inl ⟨q6,trivial,trivial,trivial⟩)
  · have o : ¬ x < j:=by omega
    have k : ¬ x < d:=by omega
    have p : a≤x:=by omega
    by_cases c2 : x < b
    · simp only [c1,c2,o,k,p,m,l,true_and,false_and,and_false,false_or,and_true] at n ⊢;by_cases c4 : y < c
      · have q : y < f:=by omega
        simp [c4,q]
      · have r : c≤y:=by omega
        have s : ¬ y < f:=by omega
        simp [c4,s,r]
    · simp [c1,c2,o,k]
theorem qtv {a b : qd} (h : Nb a b) (c : a.X0 < a.X1) (e : a.X0 = b.X0) : a.X1 = b.X1∧a.Y1≤b.Y0:=by unfold Nb at h;omega
theorem qtu {a b : qd} (h : Nb a b) (e : a.X0≠b.X0) : a.X1≤b.X0:=by unfold Nb at h;omega
theorem qtl {a b : qd} {x y g h : Int} {F L m : Bool} {R P : Prop} (r : Nb a b) (o : a.X0 < a.X1) (z : b.X0 < b.X1) (j : b.Y0 < b.Y1) (w : g≤y) (t : y < h) (hP : P)
    (v : F = true↔a.X0≠b.X0) (u : L = true↔b.X0≠a.X0)
    (g0 : a.X1≤x→x < b.X0→¬ R) (n : b.X0≤x→x < b.X1→y < b.Y0→(a.X0≠b.X0∨a.Y1≤y)→¬ R) (s : b.X0≤x→x < b.X1→b.Y1≤y→m = true→¬ R) (p : b.X0≤x→x < b.X1→b.Y0≤y→y < b.Y1→R) :
    (((x < a.X0∨(x < a.X1∧(y < a.Y1∨L = true)))∧¬ R)∨((F = true∧P)∧a.X1≤x∧x < b.X0∧g≤y∧y < h)∨(b.X0≤x∧x < b.X1∧(cond F g a.Y1)≤y∧y < b.Y0)∨(m = true∧b.X0≤x∧x < b.X1∧b.Y1≤y∧y < h))↔
      (x < b.X0∨(x < b.X1∧(y < b.Y1∨m = true)))∧¬ R:=by
  by_cases e : a.X0 = b.X0
  · have l : F = false:=by rw [← Bool.not_eq_true,v];simp [e]
    have f1 : L = false:=by rw [← Bool.not_eq_true,u];simp [e]
    have k:=qtv r o e;subst l f1;simp only [qx,Bool.false_eq_true,false_and,false_or,or_false];by_cases f : R
    · simp only [f,not_true_eq_false,and_false,false_or,iff_false];rintro (⟨a,b,c,d⟩ | ⟨q,a,b,c,d⟩)
      · exact n a b d (.inr c) f
      · exact s a b c q f
    · simp only [f,not_false_eq_true,and_true];exact qpd e k.1 k.2 j t fun a=>f (p a.1 a.2.1 a.2.2.1 a.2.2.2)
  · have l : F = true:=v.2 e;have f1 : L = true:=u.2 fun a=>e a.symm;have k:=qtu r e;subst l f1;simp only [qz,or_true,and_true,true_and,hP];by_cases f : R
    · simp only [f,not_true_eq_false,and_false,false_or,iff_false];rintro (⟨a,b,c,d⟩ | ⟨a,b,c,d⟩ | ⟨q,a,b,c,d⟩)
      · exact g0 a b f
      · exact n a b d (.inl e) f
      · exact s a b c q f
    · simp only [f,not_false_eq_true,and_true];exact qpc k o z j w t fun a=>f (p a.1 a.2.1 a.2.2.1 a.2.2.2)
theorem qto {l : List qd} {h : qd} (m : l.Pairwise Nb) (j : ∀ r∈l,r.X0 < r.X1∧r.Y0 < r.Y1) {k : Nat} (f : k + 1 < l.length) (g : k < l.length) {o : List qd} {x y : Int} (q : h.Y0≤y) (t : y < h.Y1)
    (s : hasR o x y↔seen l k g x y∧¬ hasR l x y) :
    hasR (Uc l h (k + 1) f o) x y↔seen l (k + 1) f x y∧¬ hasR l x y:=by
  have p:=j _ (Kc g);have n:=j _ (Kc f);have v : fstB l (k + 1) f = true↔l[k].X0≠l[k + 1].X0:=by rw [qk5];simp
  have u : lstB l k g = true↔l[k + 1].X0≠l[k].X0:=by rw [qdg];exact ⟨fun a=>a f,fun a _=>a⟩
  rw [qlp,s]
  exact qtl (Ud m g f (Nat.lt_succ_self k)) p.1 n.1 n.2 q t (Nat.succ_pos k) v u
    (fun a b=>qty m j f (Nat.succ_pos k) a b) (fun a b c d=>qlq m j f a b c (.inr d)) (fun a b c d=>qlr m j f a b c (qdg.1 d))
    (fun a b c d=>⟨l[k + 1],Kc f,a,b,c,d⟩)
def Zc (l : List qd) (h : qd) : Nat→List qd
  | 0=>[]
  | k + 1=>if hk : k < l.length then Uc l h k hk (Zc l h k) else Zc l h k
theorem q9h {l : List qd} {h : qd} {k : Nat} (a : k < l.length) : Zc l h (k + 1) = Uc l h k a (Zc l h k):=by rw [Zc,dif_pos a]
theorem qg7 (l : List qd) (h : qd) : ∀ k,(Zc l h k).length≤3 * k
  | 0=>by simp [Zc]
  | k + 1=>by
    have b:=qg7 l h k
    by_cases a : k < l.length
    · rw [q9h a];have:=qtt l h k a (Zc l h k);omega
    · rw [Zc,dif_neg a];omega
theorem qll {l : List qd} {h : qd} (c : l.Pairwise Nb) (b : ∀ r∈l,r.X0 < r.X1∧r.Y0 < r.Y1) (f : ∀ r∈l,h.Y0≤r.Y0) (d : ∀ g : 0 < l.length,l[0].X0≤h.X0) {x y : Int} (hb : h.X0≤x∧h.Y0≤y∧y < h.Y1) :
    ∀ (k : Nat) (a : k < l.length),hasR (Zc l h (k + 1)) x y↔seen l k a x y∧¬ hasR l x y
  | 0,a=>by rw [q9h a];exact qtn c b a (d a) x y hb
  | k + 1,a=>by
    rw [q9h a]
    exact qto c b a q6 hb.2.1 hb.2.2 (qll c b f d hb k q6)
theorem qts {l : List qd} {h : qd} (w : l.Pairwise Nb) (hi : ∀ v∈l,h.X0≤v.X0∧h.Y0≤v.Y0∧v.X1≤h.X1∧v.Y1≤h.Y1) (m : ∀ r∈l,r.X0 < r.X1∧r.Y0 < r.Y1) {k : Nat} {c : k < l.length} {o : List qd} (g : ∀ t∈o,inHo h t) :
    ∀ t∈Uc l h k c o,inHo h t:=by
  have y:=hi _ (Kc c);have s:=m _ (Kc c);have x:=hi _ (Kc (show k - 1 < l.length by omega));have u:=m _ (Kc (show k - 1 < l.length by omega))
  have add1 : ∀ (o : List qd) (r : qd),(∀ t∈o,inHo h t)→(r.X0 < r.X1→r.Y0 < r.Y1→inHo h r)→∀ t∈Ys o r,inHo h t:=by
    intro o r q n t d;rcases qp7 d with d | ⟨rfl,a,b⟩
    · exact q t d
    · exact n a b
  unfold Uc
  have p : ∀ t∈(cond (fstB l k c && decide (0 < k)) (Ys o ⟨l[k - 1].X1,h.Y0,l[k].X0,h.Y1⟩) o),inHo h t:=by
    cases (fstB l k c && decide (0 < k)) with
    | false=>exact g
    | true=>
      refine add1 _ _ g fun a b=>?_;unfold inHo;simp only at a b ⊢;omega
  have f : h.Y0≤cond (fstB l k c) h.Y0 l[k - 1].Y1:=by
    cases fstB l k c
    · simp only [qx];omega
    · simp only [qz];omega
  have j:=add1 _ ⟨l[k].X0,cond (fstB l k c) h.Y0 l[k - 1].Y1,l[k].X1,l[k].Y0⟩ p fun a b=>by
    unfold inHo;simp only at a b ⊢;omega
  cases lstB l k c with
  | false=>exact j
  | true=>
    refine add1 _ _ j fun a b=>?_;unfold inHo;simp only at a b ⊢;omega
theorem qg6 {l : List qd} {h : qd} (b : l.Pairwise Nb) (hi : ∀ v∈l,h.X0≤v.X0∧h.Y0≤v.Y0∧v.X1≤h.X1∧v.Y1≤h.Y1) (a : ∀ r∈l,r.X0 < r.X1∧r.Y0 < r.Y1) : ∀ (k : Nat),∀ t∈Zc l h k,inHo h t
  | 0=>by simp [Zc]
  | k + 1=>by
    by_cases c : k < l.length
    · rw [q9h c];exact qts b hi a (qg6 b hi a k)
    · rw [Zc,dif_neg c];exact qg6 b hi a k
def q12 (l : List qd) : List qd:=Zc l (Ka l) l.length
theorem qkr (l : List qd) : (q12 l).length≤3 * l.length:=qg7 _ _ _
theorem qpu {l : List qd} (b : CanR l) (a : 0 < l.length) : ∀ r∈l,l[0].X0≤r.X0:=by
  intro r d;obtain ⟨j,c,rfl⟩:=List.mem_iff_getElem.1 d;have g:=(b.lt _ (Kc a)).1;rcases Nat.eq_zero_or_pos j with rfl | f
  · exact Int.le_refl _
  · rcases Ud (qcq b) a c f with e | e <;> omega
theorem qpv {l : List qd} (c : CanR l) (a : l.length - 1 < l.length) : ∀ r∈l,r.X1≤l[l.length - 1].X1:=by
  intro r f;obtain ⟨j,d,rfl⟩:=List.mem_iff_getElem.1 f;have g:=(c.lt _ (Kc a)).1;rcases Nat.lt_or_ge j (l.length - 1) with b | b
  · rcases Ud (qcq c) d a b with e | e <;> omega
  · obtain rfl : j = l.length - 1:=by omega
    exact Int.le_refl _
theorem qfw {l : List qd} (a : CanR l) : ∀ t∈q12 l,inHo (Ka l) t:=qg6 (qcq a) q1w a.lt _
theorem qks {l : List qd} (k : CanR l) (g : l≠[]) {x y : Int} (t : (Ka l).X0≤x∧x < (Ka l).X1) (q : (Ka l).Y0≤y∧y < (Ka l).Y1) : hasR (q12 l) x y↔¬ hasR l x y:=by
  have n : 0 < l.length:=List.length_pos_iff.2 g;have j : l.length - 1 < l.length:=by omega
  have u:=qpv k j;have p : (Ka l).X1≤l[l.length - 1].X1:=(qfx (a:=(Ka l).X0) (b:=(Ka l).Y0) (c:=l[l.length - 1].X1) (d:=(Ka l).Y1) g fun v f=>⟨(q1w v f).1,(q1w v f).2.1,u v f,(q1w v f).2.2.2⟩).2.2.1;have m : ∀ n : 0 < l.length,l[0].X0≤(Ka l).X0:=fun n=>(qfx (a:=l[0].X0) (b:=(Ka l).Y0) (c:=(Ka l).X1) (d:=(Ka l).Y1) g fun v f=>⟨qpu k n v f,(q1w v f).2.1,(q1w v f).2.2.1,(q1w v f).2.2.2⟩).1;have key:=qll (qcq k) k.lt (fun r s=>(q1w r s).2.1) m (x:=x) (y:=y) ⟨t.1,q⟩ (l.length - 1) j;rw [show l.length - 1 + 1 = l.length from by omega] at key;unfold q12;rw [key];have w : lstB l (l.length - 1) j = true:=qdg.2 fun o=>absurd o q6;unfold seen;rw [w];exact ⟨fun h=>h.2,fun h=>⟨.inr ⟨q6,.inr rfl⟩,h⟩⟩
end Go.Sh
namespace Go.Sh
open Go Go.Am
theorem qnp {α : Type} (f : α→α) {l : List α} {k : Nat} (a : k < l.length) : ((l.take k).map f ++ l.drop k).set k (f l[k]) = (l.take (k + 1)).map f ++ l.drop (k + 1):=by
  have e : k - ((l.take k).map f).length = 0:=by simp;omega
  rw [List.set_append_right _ _ (by simp;omega),e,List.take_succ_eq_append_getElem a,List.map_append,List.append_assoc,List.drop_eq_getElem_cons a];rfl
def Ki (d : Int) (r : qd) : qd:=⟨r.X0 - d,r.Y0 - d,r.X1 + d,r.Y1 + d⟩
def Zp (g r : qd) : qd:=⟨max r.X0 g.X0,r.Y0,min r.X1 g.X1,r.Y1⟩
def offX (g r : qd) : Bool:=decide (r.X1≤g.X0∨g.X1≤r.X0)
theorem qgc (g r : qd) : q1y r g = some (offX g r):=by
  unfold q1y offX;by_cases h : r.X1≤g.X0
  · simp [h]
  · simp [h,Qe h]
theorem qkc {r : qd} {d : Int} (a : (-1000000≤r.X0∧r.X0≤1000000)∧(-1000000≤r.Y0∧r.Y0≤1000000)∧(-1000000≤r.X1∧r.X1≤1000000)∧(-1000000≤r.Y1∧r.Y1≤1000000)) (hd : -1000000≤d∧d≤1000000) :
    q4b r d = some (Ki d r):=by
  unfold q4b Ki;rw [Ql q6,Ql q6,Ql q6,Ql q6]
theorem qsp {h t : qd} (b : (-1000000≤h.X0∧h.X0≤1000000)∧(-1000000≤h.Y0∧h.Y0≤1000000)∧(-1000000≤h.X1∧h.X1≤1000000)∧(-1000000≤h.Y1∧h.Y1≤1000000)) (a : inHo h t) :
    (-1000000≤t.X0∧t.X0≤1000000)∧(-1000000≤t.Y0∧t.Y0≤1000000)∧(-1000000≤t.X1∧t.X1≤1000000)∧(-1000000≤t.Y1∧t.Y1≤1000000):=by
  unfold inHo at a;omega
theorem qso {l : List qd} (f : ∀ r∈l,vR r) : (-1000000≤(Ka l).X0∧(Ka l).X0≤1000000)∧(-1000000≤(Ka l).Y0∧(Ka l).Y0≤1000000)∧(-1000000≤(Ka l).X1∧(Ka l).X1≤1000000)∧(-1000000≤(Ka l).Y1∧(Ka l).Y1≤1000000):=by
  cases l with
  | nil=>decide
  | cons r l=>
    have k:=qfx (a:=-1000000) (b:=-1000000) (c:=1000000) (d:=1000000) (l:=r::l) qe fun v h=>by
      have:=f v h;unfold vR at this;omega
    have j:=q1w (l:=r::l) r qe;have g:=f r qe;unfold vR at g;omega
theorem qtm {l : List qd} {h : qd} (b : l.length≤1000) : loop (q2h l (h,0)) (0,[]) = some (Zc l h l.length):=by
  have key:=Yr (f:=q2h l (h,0)) (fun k=>((k : Int),Zc l h k)) l.length (Zc l h l.length) (fun k a=>by
    rw [q9h a]
    exact qtp b a (qg7 l h k)) (by simp only [q2h,dnl,qx]) (Nat.zero_le _)
  exact key
theorem qsf {b : qd × List qd} {d : Int} (l : b.2.length≤1000) (hd : -1000000≤d∧d≤1000000)
    (h : ∀ r∈b.2,(-1000000≤r.X0∧r.X0≤1000000)∧(-1000000≤r.Y0∧r.Y0≤1000000)∧(-1000000≤r.X1∧r.X1≤1000000)∧(-1000000≤r.Y1∧r.Y1≤1000000)) :
    loop (q44 b d) (0,b.2) = some (b.2.map (Ki d)):=by
  have key:=Yr (f:=q44 b d) (fun k=>((k : Int),(b.2.take k).map (Ki d) ++ b.2.drop k)) b.2.length (b.2.map (Ki d)) (fun k a=>by
    have g : ((b.2.take k).map (Ki d) ++ b.2.drop k).length = b.2.length:=by simp;omega
    have c : k < ((b.2.take k).map (Ki d) ++ b.2.drop k).length:=by omega
    have j : ((b.2.take k).map (Ki d) ++ b.2.drop k)[k] = b.2[k]:=by
      rw [List.getElem_append_right (by simp;omega)];simp [List.length_take,Nat.min_eq_left (Nat.le_of_lt a)]
    simp only [q44,dlt a,qz,Qq c,qj,j,qkc (h _ (Kc a)) hd,w64s a q6,Int.toNat_natCast]
    rw [qnp (Ki d) a]) (by simp only [q44,dnl,qx,List.take_length,List.drop_length,List.append_nil]) (Nat.zero_le _)
  simpa using key
theorem qrl {g : qd} {l : List qd} (hl : l.length≤1000) {k0 : Nat} (m : k0 < l.length) (hb : ∀ j (h : j < k0),offX g (l[j]'(q6)) = false) (hc : offX g l[k0] = true) :
    ∃ row,loop (q2i g) ((k0 : Int),w64 ((k0 : Int) + 1),l) = some (((l.filter fun r=>!offX g r).length : Int),row)∧row.length = l.length∧row.take (l.filter fun r=>!offX g r).length = l.filter fun r=>!offX g r:=by
  let q : qd→Bool:=fun r=>!offX g r
  have o : (l.take (k0 + 1)).filter q = l.take k0:=by
    rw [List.take_succ_eq_append_getElem m,List.filter_append];have : [l[k0]].filter q = []:=by simp [q,hc]
    rw [this,List.append_nil,List.filter_eq_self];intro a ha;obtain ⟨j,hj,rfl⟩:=List.mem_iff_getElem.1 ha;have v : j < k0:=by simp at hj;omega
    simp [q,List.getElem_take,hb j v]
  have ai : ∀ j,((l.take j).filter q).length≤j:=fun j=>Nat.le_trans (List.length_filter_le _ _) (by simp;omega)
  obtain ⟨b,h1,y⟩:=J4 (f:=q2i g) (fun k (c : List qd)=>((((l.take k).filter q).length : Int),(k : Int),c)) l.length
    (fun k c=>k0 < k∧c.length = l.length∧c.take ((l.take k).filter q).length = (l.take k).filter q∧c.drop k = l.drop k)
    (fun b=>b.1 = ((l.filter q).length : Int)∧b.2.length = l.length∧b.2.take (l.filter q).length = l.filter q)
    (fun k c u ⟨i0,i1,i2,i3⟩=>.inl (by
      have d : k < c.length:=by omega
      have w : c[k] = l[k]:=by
        have e1 : (c.drop k)[0]? = (l.drop k)[0]?:=by rw [i3]
        simpa [u,d] using e1
      have t : decide ((k : Int) < (c.length : Int)) = true:=dlt d
      have hn : ((l.take k).filter q).length < k:=by
        have : (l.take k).filter q = (l.take k0) ++ ((l.take k).drop (k0 + 1)).filter q:=by
          conv=>lhs;rw [← List.take_append_drop (k0 + 1) (l.take k)]
          rw [List.filter_append,List.take_take,Nat.min_eq_left q6,o]
        rw [this,List.length_append];have:=List.length_filter_le q ((l.take k).drop (k0 + 1));simp at this ⊢;omega
      rw [List.take_succ_eq_append_getElem u,List.filter_append]
      cases s : offX g l[k] with
      | true=>
        refine ⟨c,?_,q6,i1,?_,?_⟩
        · simp only [q2i,t,qz,Qq d,qj,w,qgc,s,Bool.not_true,qx,w64s u q6];simp [q,s]
        · simp [q,s];exact i2
        · rw [← List.drop_drop,i3,List.drop_drop]
      | false=>
        have p : ((l.take k).filter q).length < c.length:=by omega
        refine ⟨c.set ((l.take k).filter q).length l[k],?_,q6,by simp [i1],?_,?_⟩
        · have e2 : w64 ((((l.take k).filter q).length : Int) + 1) = ((((l.take k).filter q).length + 1 : Nat) : Int):=w64s p q6;simp only [q2i,t,qz,Qq d,qj,w,qgc,s,Bool.not_false,Qq p,w64s u q6,e2,Int.toNat_natCast];simp [q,s]
        · have e3 : [l[k]].filter q = [l[k]]:=by simp [q,s]
          rw [e3,List.length_append,List.length_singleton,List.take_succ_eq_append_getElem (by simpa using p),List.take_set_of_le (Nat.le_refl _),i2];simp
        · rw [List.drop_set_of_lt q6,← List.drop_drop,i3,List.drop_drop]))
    (fun c ⟨i0,i1,i2,i3⟩=>⟨(((l.filter q).length : Int),c),by
      have : decide ((l.length : Int) < (c.length : Int)) = false:=Qe q6
      simp only [q2i,this,qx,List.take_length],rfl,i1,by rw [List.take_length] at i2;exact i2⟩)
    (k0:=k0 + 1) (c0:=l) q6 ⟨q6,rfl,by rw [o];simp [Nat.min_eq_left (Nat.le_of_lt m)],rfl⟩
  obtain ⟨n,row⟩:=b;obtain ⟨rfl,h3,z⟩:=y;refine ⟨row,?_,h3,z⟩;rw [← h1];congr 1;have x : ((l.take (k0 + 1)).filter q).length = k0:=by rw [o];simp;omega
  rw [x,w64s m q6]
theorem qrm {g : qd} {l : List qd} (q : l.length≤1000) :
    ∃ row,((q4x l (fun c=>q1y c g)).bind fun b=>cond (b == (-1)) (some ((0,l.length),l)) ((loop (q2i g) (b,w64 (b + 1),l)).bind fun a=>(sub2 a.2.length a.1 a.2.length).bind fun f=>(sub2 a.2.length 0 a.1).bind fun d=>some (d,clrw a.2 f ({X0:=0,Y0:=0,X1:=0,Y1:=0} : qd)))) = some ((0,(l.filter fun r=>!offX g r).length),row)∧
      row.length = l.length∧row.take (l.filter fun r=>!offX g r).length = l.filter fun r=>!offX g r:=by
  have hs : ∀ (k : Nat) (h : k < l.length),q1c l (fun c=>q1y c g) (k : Int) = some (if offX g l[k] = true then .inr (.inr (k : Int)) else .inl ((k + 1 : Nat) : Int)):=by
    intro k h;simp only [q1c,dlt h,qz,Qq h,qj,w64s h (by omega : l.length≤1000000),qgc];cases offX g l[k] <;> rfl
  have hd : q1c l (fun c=>q1y c g) (l.length : Int) = some (.inr (.inl ())):=by simp only [q1c,dnl,qx]
  unfold q4x;rcases q1l l (offX g) (fun k _=>(k : Int)) () _ hs hd with ⟨y,m⟩ | ⟨k,u,z,hb,m⟩
  · rw [m];have o : (l.filter fun r=>!offX g r) = l:=List.filter_eq_self.2 fun r t=>by simp [y r t]
    refine ⟨l,?_,rfl,by rw [o];simp⟩;rw [o];rfl
  · rw [m];obtain ⟨row,v,p,w⟩:=qrl q u (fun j x=>hb j x) z;have s : (l.filter fun r=>!offX g r).length≤l.length:=List.length_filter_le _ _;refine ⟨clrw row ((l.filter fun r=>!offX g r).length,l.length - (l.filter fun r=>!offX g r).length) ⟨0,0,0,0⟩,?_,?_,?_⟩
    · have n : ((k : Int) == -1) = false:=by simp
      simp only [qj,n,qx,v,sub2,p];rw [qy q6,qy q6];simp
    · rw [qcu (by show _ + (_ - _)≤_;omega),p]
    · unfold clrw splice;rw [List.append_assoc,List.take_append_of_le_length (by simp;omega),List.take_take,Nat.min_self,w]
theorem qqw {g : qd} {b : (Nat × Nat) × List qd} (j : b.1.1 = 0) (q : b.2.length≤1000) (t : b.1.2≤b.2.length) :
    ∃ row,loop (q45 b g) (b.1,0,b.2) = some (b.1,row)∧row.length = b.2.length∧row.take b.1.2 = (b.2.take b.1.2).map (Zp g):=by
  obtain ⟨⟨o,n⟩,l⟩:=b;simp only at j q t ⊢;subst j
  have key:=Yr (f:=q45 ((0,n),l) g) (fun k=>((0,n),(k : Int),(l.take k).map (Zp g) ++ l.drop k)) n ((0,n),(l.take n).map (Zp g) ++ l.drop n) (fun k m=>by
    have a : k < l.length:=by omega
    have p : ((l.take k).map (Zp g) ++ l.drop k).length = l.length:=by simp;omega
    have s : ((l.take k).map (Zp g) ++ l.drop k)[k]? = some l[k]:=by
      rw [List.getElem?_append_right (by simp;omega)];simp [List.length_take,Nat.min_eq_left (Nat.le_of_lt a),a]
    have d : ∀ xs : List qd,idxW xs (0,n) (k : Int) = xs[k]?:=fun xs=>by
      unfold idxW;rw [qy (by simp;omega)];simp
    have c : ∀ v,(((l.take k).map (Zp g) ++ l.drop k).set k v)[k]? = some v:=fun v=>by
      rw [List.getElem?_set_self q6]
    have h : decide ((k : Int) < (((0,n) : Nat × Nat).2 : Int)) = true:=Qc (by simpa using m);have r : (((0,n) : Nat × Nat).1 : Int) + (k : Int) = (k : Int):=by simp
    simp only [q45,h,qz,d,s,qj,r,Int.toNat_natCast,c,w64s m q6,List.set_set]
    exact congrArg (fun x=>some (Sum.inl ((0,n),((k + 1 : Nat) : Int),x))) (qnp (Zp g) a)) (by
      have : decide ((n : Int) < (((0,n) : Nat × Nat).2 : Int)) = false:=Qe qe
      simp only [q45,this,qx]) (Nat.zero_le _)
  refine ⟨(l.take n).map (Zp g) ++ l.drop n,by simpa using key,by simp;omega,?_⟩;rw [List.take_append_of_le_length (by simp;omega),List.take_of_length_le (by simp;omega)]
def q1v (d : Int) (g : qd) (l : List qd) : List qd:=(((q12 l).map (Ki d)).filter fun r=>!offX g r).map (Zp g)
noncomputable def shrR (d : Int) (l : List qd) : List qd × Int:=
  if l = [] then ([],0) else
    let g:=Ki (-d) (Ka l)
    if g.X1≤g.X0∨g.Y1≤g.Y0 then ([],0) else if 400 < (mrgR 3 [g] (q1v d g l)).length then ([],4) else (mrgR 3 [g] (q1v d g l),0)
theorem qfv (d : Int) (g : qd) (l : List qd) : (q1v d g l).length≤3 * l.length:=by
  unfold q1v;rw [List.length_map];refine Nat.le_trans (List.length_filter_le _ _) ?_;rw [List.length_map];exact qkr l
theorem qv5 {l : List qd} {d : Int} (a : Z4 l = 0) (hd : 0≤d∧d≤1000000) : q9k l d = some 0:=by
  unfold q9k;rw [qn4,a];simp only [qj,bne_self_eq_false,qx];rw [Qe (by omega : ¬ d < 0),Qe (by omega : ¬ d > 1000000)];rfl
theorem qzy {l : List qd} {d : Int} (s : Z4 l = 0) (hl : l.length≤160) (hd : 0≤d∧d≤1000000) : q9i l d = some (shrR d l):=by
  unfold q9i shrR;rw [qv5 s hd];simp only [qj,bne_self_eq_false,qx];by_cases h : l = []
  · subst h;rfl
  · have h0 : ((l.length : Int) == 0) = false:=by have:=List.length_pos_iff.2 h;simp;omega
    obtain ⟨_,hv,f⟩:=q8t.1 s;have x:=qso hv;have a:=qfw f;have z:=qkr l;have hm : loop (q2h l (Ka l,0)) (0,[]) = some (q12 l):=qtm q6;rw [Q3 h,h0,qx,qy5 s h];simp only [qj,hm];have hw : w64 (0 - d) = -d:=by rw [Ql q6];omega
    have m : q4b ({X0:=(Ka l).X0,Y0:=(Ka l).Y0,X1:=(Ka l).X1,Y1:=(Ka l).Y1} : qd) (-d) = some (Ki (-d) (Ka l)):=qkc x q6;rw [hw,m];simp only [qj];generalize hg : Ki (-d) (Ka l) = g;by_cases hx : g.X1≤g.X0
    · rw [qy (.inl hx),Qc (by omega : g.X0 ≥ g.X1)];rfl
    · rw [Qe (by omega : ¬ g.X0 ≥ g.X1),qx];simp only [qj];by_cases j : g.Y1≤g.Y0
      · rw [qy (.inr j),Qc (by omega : g.Y0 ≥ g.Y1)];rfl
      · rw [Q3 q6,Qe (by omega : ¬ g.Y0 ≥ g.Y1),qx,qsf (b:=(Ka l,q12 l)) (by simp only;omega) q6 (fun r o=>qsp x (a r o))];simp only [qj];obtain ⟨row,e1,w,e3⟩:=qrm (g:=g) (l:=(q12 l).map (Ki d)) (by rw [List.length_map];omega);rw [e1];simp only [qj];have k : (((q12 l).map (Ki d)).filter fun r=>!offX g r).length≤row.length:=by rw [w];exact List.length_filter_le _ _
        obtain ⟨v,f1,f2,y⟩:=qqw (g:=g) (b:=((0,(((q12 l).map (Ki d)).filter fun r=>!offX g r).length),row)) rfl (by simp only;rw [w,List.length_map];omega) (by simpa using k);rw [f1];simp only [qj];simp only at f2 y;rw [Un,qy (by simp only;omega)];simp only [qj,List.drop_zero,y,e3];have hq : ((((q12 l).map (Ki d)).filter fun r=>!offX g r).map (Zp g)) = q1v d g l:=rfl;rw [hq];have an:=qfv d g l
        have n : vlo (ysp g):=by
          subst hg;unfold Ki at j ⊢;unfold vlo ysp;simp only at j ⊢;omega
        rw [qq0 (p:=[g]) (q:=q1v d g l) (by simp;omega) (by simpa using n) (fun r c=>by
          unfold q1v at c;obtain ⟨t,ht,rfl⟩:=List.mem_map.1 c;obtain ⟨u,hu,rfl⟩:=List.mem_map.1 (List.mem_filter.1 ht).1;have h1:=a u hu;unfold inHo at h1;unfold vlo ysp Zp Ki;simp only
          omega)]
        split <;> rfl
end Go.Sh
namespace Go.Sh
open Go Go.Am
def Deep (l : List qd) (d x y : Int) : Prop:=∀ x' y',(x - d≤x'∧x'≤x + d)→(y - d≤y'∧y'≤y + d)→hasR l x' y'
theorem Deep.self {l : List qd} {d x y : Int} (h : Deep l d x y) (hd : 0≤d) : hasR l x y:=h x y q6 q6
theorem qkm {l : List qd} {d x y : Int} (hd : 0≤d) (f : ∀ r∈l,r.X0 < r.X1∧r.Y0 < r.Y1) :
    hasR (l.map (Ki d)) x y↔∃ c b,((x - d≤c∧c≤x + d)∧(y - d≤b∧b≤y + d))∧hasR l c b:=by
  constructor
  · rintro ⟨r,g,h⟩;obtain ⟨t,a,rfl⟩:=List.mem_map.1 g;have:=f t a;unfold Ki at h;simp only at h;exact ⟨max (x - d) t.X0,max (y - d) t.Y0,q6,t,a,q6⟩
  · rintro ⟨c,b,h,t,a,j⟩;refine ⟨Ki d t,List.mem_map.2 ⟨t,a,rfl⟩,?_⟩;unfold Ki;simp only;omega
theorem qkl {q : List qd} {g : qd} {x y : Int} (c : g.X0≤x∧x < g.X1) : hasR ((q.filter fun r=>!offX g r).map (Zp g)) x y↔hasR q x y:=by
  constructor
  · rintro ⟨r,b,h⟩;obtain ⟨t,a,rfl⟩:=List.mem_map.1 b;unfold Zp at h;simp only at h;exact ⟨t,(List.mem_filter.1 a).1,q6⟩
  · rintro ⟨t,a,h⟩;refine ⟨Zp g t,List.mem_map.2 ⟨t,List.mem_filter.2 ⟨a,?_⟩,rfl⟩,?_⟩
    · unfold offX;rw [Qe q6];rfl
    · unfold Zp;simp only;omega
noncomputable def shrS (d : Int) (l : List qd) : List qd:=
  if l = [] then [] else
    let g:=Ki (-d) (Ka l)
    if g.X1≤g.X0∨g.Y1≤g.Y0 then [] else mrgR 3 [g] (q1v d g l)
theorem qgz (d : Int) (l : List qd) : shrR d l = if 400 < (shrS d l).length then ([],4) else (shrS d l,0):=by
  unfold shrR shrS;split
  · rfl
  · simp only;split
    · rfl
    · rfl
theorem qh0 {d : Int} {l : List qd} (a : l.length≤160) : CanR (shrS d l):=by
  unfold shrS;split
  · exact .nil
  · simp only;split
    · exact .nil
    · exact q64 3 (by have:=qfv d (Ki (-d) (Ka l)) l;simp;omega)
theorem qzx {d : Int} {l : List qd} (m : CanR l) (u : l.length≤160) (hd : 0≤d) (x y : Int) : hasR (shrS d l) x y↔Deep l d x y:=by
  unfold shrS;split
  · rename_i h;subst h;exact ⟨fun h=>absurd h (q2w x y),fun h=>absurd (h.self hd) (q2w x y)⟩
  · rename_i g
    have f : ∀ c b,hasR l c b→(Ka l).X0≤c∧c < (Ka l).X1∧(Ka l).Y0≤b∧b < (Ka l).Y1:=by
      rintro c b ⟨r,j,h⟩;have:=q1w r j;omega
    have p : Deep l d x y→(Ki (-d) (Ka l)).X0≤x∧x < (Ki (-d) (Ka l)).X1∧(Ki (-d) (Ka l)).Y0≤y∧y < (Ki (-d) (Ka l)).Y1:=by
      intro h;have q:=f _ _ (h (x - d) (y - d) q6 q6);have a:=f _ _ (h (x + d) (y + d) q6 q6);unfold Ki;simp only;omega
    simp only;split
    · exact ⟨fun h=>absurd h (q2w x y),fun h=>by have:=p h;omega⟩
    · rw [q99 3 (by have:=qfv d (Ki (-d) (Ka l)) l;simp;omega),qkq]
      have q : hasR [Ki (-d) (Ka l)] x y↔(Ki (-d) (Ka l)).X0≤x∧x < (Ki (-d) (Ka l)).X1∧(Ki (-d) (Ka l)).Y0≤y∧y < (Ki (-d) (Ka l)).Y1:=by
        unfold hasR;simp
      rw [q];constructor
      · rintro ⟨a,k⟩ c b o n;refine Classical.byContradiction fun s=>k ?_;unfold q1v;rw [qkl ⟨a.1,a.2.1⟩,qkm hd fun r j=>by have:=qfw m r j;unfold inHo at this;omega];refine ⟨c,b,⟨o,n⟩,(qks m g ?_ ?_).2 s⟩
        · unfold Ki at a;simp only at a;omega
        · unfold Ki at a;simp only at a;omega
      · intro h;have a:=p h;refine ⟨a,fun k=>?_⟩;unfold q1v at k;rw [qkl ⟨a.1,a.2.1⟩,qkm hd fun r j=>by have:=qfw m r j;unfold inHo at this;omega] at k;obtain ⟨c,b,⟨o,n⟩,t⟩:=k;refine (qks m g ?_ ?_).1 t (h c b o n)
        · unfold Ki at a;simp only at a;omega
        · unfold Ki at a;simp only at a;omega
end Go.Sh
namespace Go.Sh
open Go Go.Am
theorem q145 {f : Int→Int} {n : Nat} (h : ∀ k : Nat,k < n→0≤f k) (c : sumN n f = 0) : ∀ k : Nat,k < n→f k = 0:=by
  induction n with
  | zero=>intro k a;exact absurd a (Nat.not_lt_zero k)
  | succ n ih=>
    intro k a
    have hs : 0≤sumN n f:=by
      have:=qhl (f:=fun _=>0) (g:=f) (n:=n) fun k a=>h k q6;rw [qhm] at this;exact this
    have d:=h n q6;have e : sumN (n + 1) f = sumN n f + f n:=rfl;rw [e] at c;by_cases b : k = n
    · subst b;omega
    · exact ih (fun k a=>h k q6) q6 k q6
theorem qop {N : Nat} {f : Int→Int} (h : ∀ x : Int,-(N : Int)≤x→x < N→0≤f x) (a : sumZ N f = 0) : ∀ x : Int,-(N : Int)≤x→x < N→f x = 0:=by
  intro x d c;have:=q145 (f:=fun k=>f (k - N)) (n:=2 * N) (fun k b=>h _ q6 q6) a (x + N).toNat q6;rw [Int.toNat_of_nonneg q6] at this;simpa using this
theorem qqz {N : Nat} {P Q : Int→Int→Prop} (h : cnt2 N (fun x y=>P x y∧Q x y) = cnt2 N Q) {x y : Int} (b : -(N : Int)≤x∧x < N) (a : -(N : Int)≤y∧y < N) (f : Q x y) : P x y:=by
  have e : sumZ N (fun x=>sumZ N fun y=>ind (Q x y∧¬ P x y)) = 0:=by
    have d : sumZ N (fun x=>sumZ N fun y=>ind (Q x y∧¬ P x y)) = sumZ N (fun x=>sumZ N fun y=>ind (Q x y) - ind (P x y∧Q x y)):=q1e fun x _ _=>q1e fun y _ _=>by
      rw [q9a,q9a,qsr,Int.mul_sub,Int.mul_one,Int.mul_comm (ind (P x y))]
    rw [d];have j : sumZ N (fun x=>sumZ N fun y=>ind (Q x y) - ind (P x y∧Q x y)) = sumZ N fun x=>(sumZ N fun y=>ind (Q x y)) - sumZ N fun y=>ind (P x y∧Q x y):=q1e fun x _ _=>qoo;rw [j,qoo];exact Int.sub_eq_zero.2 h.symm
  have g:=qop (fun x _ _=>q148 fun y _ _=>qky.1) e x b.1 b.2;have c:=qop (fun y _ _=>qky.1) g y a.1 a.2;refine Classical.byContradiction fun hp=>?_;rw [q9b ⟨f,hp⟩] at c;omega
def sqR (x y d : Int) : qd:=⟨x - d,y - d,x + d + 1,y + d + 1⟩
def intR (r s : qd) : qd:=⟨max r.X0 s.X0,max r.Y0 s.Y0,min r.X1 s.X1,min r.Y1 s.Y1⟩
theorem qsq {r s : qd} {x y : Int} : inR r x y∧inR s x y↔inR (intR r s) x y:=by unfold inR intR;simp only;omega
def wR (r : qd) : Int:=r.X1 - r.X0
def hR' (r : qd) : Int:=r.Y1 - r.Y0
def cK (x y d : Int) (r : qd) : Int:=if 0 < wR (intR r (sqR x y d))∧0 < hR' (intR r (sqR x y d)) then q5l (intR r (sqR x y d)) else 0
theorem qpo {x y d : Int} {r : qd} (f : vR r) (hd : 0≤d∧d≤1000000) (j : -2000000≤x∧x≤2000000) (g : -2000000≤y∧y≤2000000) :
    cK x y d r = cnt2 4000000 fun a b=>inR r a b∧inR (sqR x y d) a b:=by
  have e : (cnt2 4000000 fun a b=>inR r a b∧inR (sqR x y d) a b) = cnt2 4000000 (inR (intR r (sqR x y d))):=by
    unfold cnt2;exact q1e fun a _ _=>q1e fun b _ _=>q2e qsq
  rw [e];unfold cK;split
  · rename_i h;unfold wR hR' at h;refine qi8 ?_;unfold vR at f;unfold intR sqR at h ⊢;simp only at h ⊢;omega
  · rename_i h
    have : cnt2 4000000 (inR (intR r (sqR x y d))) = cnt2 4000000 fun _ _=>False:=by
      unfold cnt2;refine q1e fun a _ _=>q1e fun b _ _=>q2e ⟨fun c=>h ?_,fun c=>c.elim⟩;unfold inR at c;unfold wR hR';omega
    rw [this];unfold cnt2;simp only [Ua (fun h : False=>h),qhn]
theorem qij {x y d : Int} {r : qd} (f : vR r) (hd : 0≤d∧d≤1000000) (j : -2000000≤x∧x≤2000000) (g : -2000000≤y∧y≤2000000) : 0≤cK x y d r∧cK x y d r≤4000000000000:=by
  unfold cK;split
  · rename_i h
    have c : wR (intR r (sqR x y d))≤2000000∧hR' (intR r (sqR x y d))≤2000000:=by
      unfold vR at f;unfold wR hR' intR;simp only;omega
    have e : q5l (intR r (sqR x y d)) = wR (intR r (sqR x y d)) * hR' (intR r (sqR x y d)):=rfl;rw [e];have a:=Int.mul_le_mul c.1 c.2 q6 q6;have b:=Int.mul_nonneg (by omega : 0≤wR (intR r (sqR x y d))) (by omega : 0≤hR' (intR r (sqR x y d)));omega
  · omega
def Yw (l : List qd) (x y d : Int) : Int:=sumL (cK x y d) l
theorem qrb {l : List qd} {x y d : Int} (j : CanR l) (f : ∀ r∈l,vR r) (hd : 0≤d∧d≤1000000) (m : -2000000≤x∧x≤2000000) (g : -2000000≤y∧y≤2000000) :
    Yw l x y d = cnt2 4000000 fun a b=>hasR l a b∧inR (sqR x y d) a b:=by
  have c : Yw l x y d = sumL (fun r=>sumZ 4000000 fun a=>sumZ 4000000 fun b=>ind (inR r a b∧inR (sqR x y d) a b)) l:=qof fun r h=>qpo (f r h) hd m g;rw [c,qog];unfold cnt2;refine q1e fun a _ _=>?_;rw [qog];refine q1e fun b _ _=>?_;have k : sumL (fun r=>ind (inR r a b∧inR (sqR x y d) a b)) l = sumL (fun r=>ind (inR (sqR x y d) a b) * ind (inR r a b)) l:=qof fun r _=>by rw [q9a,Int.mul_comm]
  rw [k,q144,show sumL (fun r=>ind (inR r a b)) l = ind (hasR l a b) from j.cnt a b,q9a,Int.mul_comm]
theorem qrc {l : List qd} {x y d : Int} (n : CanR l) (m : ∀ r∈l,vR r) (hd : 0≤d∧d≤1000000) (k : -2000000≤x∧x≤2000000) (f : -2000000≤y∧y≤2000000) :
    Yw l x y d = (2 * d + 1) * (2 * d + 1)↔Deep l d x y:=by
  have o : (2 * d + 1) * (2 * d + 1) = cnt2 4000000 (inR (sqR x y d)):=by
    have e:=qi8 (N:=4000000) (r:=sqR x y d) (by unfold sqR;simp only;omega);rw [← e];unfold q5l sqR;simp only;congr 1 <;> omega
  rw [qrb n m hd k f,o];constructor
  · intro h q p c j;refine qqz h q6 q6 ?_;unfold inR sqR;simp only;omega
  · intro h;unfold cnt2;refine q1e fun a _ _=>q1e fun b _ _=>q2e ⟨fun g=>g.2,fun g=>⟨h a b ?_ ?_,g⟩⟩
    · unfold inR sqR at g;simp only at g;omega
    · unfold inR sqR at g;simp only at g;omega
theorem qx4 {l : List qd} {x y d : Int} (hl : l.length≤400) (p : ∀ r∈l,vR r) (hd : 0≤d∧d≤1000000) (o : -2000000≤x∧x≤2000000) (n : -2000000≤y∧y≤2000000) : q9t l x y d = some (Yw l x y d):=by
  have hb : ∀ k,k≤l.length→0≤Yw (l.take k) x y d∧Yw (l.take k) x y d≤k * 4000000000000:=by
    intro k
    induction k with
    | zero=>intro _;simp [Yw,sumL]
    | succ k ih=>
      intro a;have q:=ih q6;have g:=qij (p _ (Kc (show k < l.length by omega))) hd o n;rw [List.take_succ_eq_append_getElem q6];unfold Yw at q ⊢;rw [qef];have e : sumL (cK x y d) [l[k]] = cK x y d l[k]:=by simp [sumL]
      rw [e];omega
  have key:=Yr (f:=q4l l x d y) (fun k=>(Yw (l.take k) x y d,(k : Int))) l.length (Yw l x y d) (fun k a=>by
    have m:=p _ (Kc a);have q:=hb k q6;have g:=qij m hd o n
    have t : Yw (l.take (k + 1)) x y d = Yw (l.take k) x y d + cK x y d l[k]:=by
      rw [List.take_succ_eq_append_getElem a];unfold Yw;rw [qef];congr 1;simp [sumL]
    have u : w64 (w64 (x + d) + 1) = x + d + 1:=by rw [Ql (x:=x + d) q6,Ql q6]
    have w2 : w64 (w64 (y + d) + 1) = y + d + 1:=by rw [Ql (x:=y + d) q6,Ql q6]
    have v : w64 (x - d) = x - d:=Ql q6;have s : w64 (y - d) = y - d:=Ql q6
    have w5 : w64 (min l[k].X1 (x + d + 1) - max l[k].X0 (x - d)) = wR (intR l[k] (sqR x y d)):=by
      unfold vR at m;unfold wR intR sqR;simp only;exact Ql q6
    have w : w64 (min l[k].Y1 (y + d + 1) - max l[k].Y0 (y - d)) = hR' (intR l[k] (sqR x y d)):=by
      unfold vR at m;unfold hR' intR sqR;simp only;exact Ql q6
    have z : w64 ((k : Int) + 1) = ((k + 1 : Nat) : Int):=w64s a q6;simp only [q4l,dlt a,qz,Qq a,qj,u,w2,v,s,w5,w,z,t];unfold cK at g ⊢;by_cases c : 0 < wR (intR l[k] (sqR x y d))
    · by_cases j : 0 < hR' (intR l[k] (sqR x y d))
      · have e : q5l (intR l[k] (sqR x y d)) = wR (intR l[k] (sqR x y d)) * hR' (intR l[k] (sqR x y d)):=rfl;rw [qy ⟨c,j⟩,e] at g;rw [qy ⟨c,j⟩,e,Qc (by omega : wR (intR l[k] (sqR x y d)) > 0),Qc (by omega : hR' (intR l[k] (sqR x y d)) > 0)];simp only [qz,qj];rw [Ql (x:=wR (intR l[k] (sqR x y d)) * hR' (intR l[k] (sqR x y d))) q6,Ql q6]
      · rw [Q3 (fun h=>j h.2),Qc (by omega : wR (intR l[k] (sqR x y d)) > 0),Qe (by omega : ¬ hR' (intR l[k] (sqR x y d)) > 0)];simp only [qz,qx,qj,Int.add_zero]
    · rw [Q3 (fun h=>c h.1),Qe (by omega : ¬ wR (intR l[k] (sqR x y d)) > 0)]
      simp only [qx,qj,Int.add_zero]) (by simp only [q4l,dnl,qx,List.take_length]) (Nat.zero_le _)
  have b : loop (q4l l x d y) (0,0) = some (Yw l x y d):=key;unfold q9t;rw [b];rfl
theorem qx2 {d : Int} (hd : 0≤d∧d≤1000000) : q6g d = some ((2 * d + 1) * (2 * d + 1)):=by
  have a : (2 * d + 1) * (2 * d + 1)≤2000001 * 2000001:=Int.mul_le_mul q6 q6 q6 q6;have b : 0≤(2 * d + 1) * (2 * d + 1):=Int.mul_nonneg q6 q6;unfold q6g;rw [Ql (x:=2 * d) q6,Ql (x:=2 * d + 1) q6,Ql q6]
end Go.Sh
namespace Go.Sh
open Go Go.Am
theorem qhe {xs : List Int} (hs : xs.Pairwise (· < ·)) {a b x : Int} (k : a∈xs) (hb : b∈xs) (l : a≤x) (n : x < b) : ∃ (i : Nat) (h : i + 1 < xs.length),xs[i]≤x∧x < xs[i + 1]:=by
  obtain ⟨i,hi,rfl⟩:=List.mem_iff_getElem.1 k;obtain ⟨j,g,rfl⟩:=List.mem_iff_getElem.1 hb
  have : ∀ m i (hi : i < xs.length),j - i = m→xs[i]≤x→∃ (i : Nat) (h : i + 1 < xs.length),xs[i]≤x∧x < xs[i + 1]:=by
    intro m
    induction m with
    | zero=>
      intro i hi f d
      have : xs[j]≤xs[i]:=by
        rcases Nat.lt_or_eq_of_le (show j≤i by omega) with h | h
        · exact Int.le_of_lt (List.pairwise_iff_getElem.1 hs j i g hi h)
        · subst h;exact Int.le_refl _
      omega
    | succ m ih=>
      intro i hi f d;by_cases c : x < xs[i + 1]
      · exact ⟨i,q6,d,c⟩
      · exact ih (i + 1) q6 q6 q6
  exact this _ i hi rfl l
theorem q8e {xs : List Int} (hs : xs.Pairwise (· < ·)) {i : Nat} (h : i + 1 < xs.length) {c : Int} (b : c∈xs) (g : xs[i] < c) (f : c < xs[i + 1]) : False:=by
  obtain ⟨j,a,rfl⟩:=List.mem_iff_getElem.1 b;rcases Nat.lt_trichotomy j i with d | d | d
  · have:=List.pairwise_iff_getElem.1 hs j i a q6 d;omega
  · subst d;omega
  · rcases Nat.lt_or_eq_of_le (show i + 1≤j by omega) with e | e
    · have:=List.pairwise_iff_getElem.1 hs (i + 1) j h a e;omega
    · subst e;omega
theorem q118 {xs : List Int} (hs : xs.Pairwise (· < ·)) {i j : Nat} (hi : i + 1 < xs.length) (a : j + 1 < xs.length) {x : Int} (c : xs[i]≤x∧x < xs[i + 1]) (b : xs[j]≤x∧x < xs[j + 1]) : i = j:=by
  have key : ∀ {i j : Nat} (hi : i + 1 < xs.length) (a : j + 1 < xs.length),i < j→xs[i + 1]≤xs[j]:=fun {i j} hi a h=>by
    rcases Nat.lt_or_eq_of_le (show i + 1≤j by omega) with e | e
    · exact Int.le_of_lt (List.pairwise_iff_getElem.1 hs (i + 1) j hi q6 e)
    · subst e;exact Int.le_refl _
  rcases Nat.lt_trichotomy i j with d | d | d
  · have:=key hi a d;omega
  · exact d
  · have:=key a hi d;omega
theorem qod {a : List Int} (hs : a.Pairwise (· < ·)) : ∀ {b : List Int},(∀ x∈a,x∈b)→a.length≤b.length:=by
  induction a with
  | nil=>intros;simp
  | cons x a ih=>
    intro b h;have hp:=List.pairwise_cons.1 hs;have d:=h x qe;have f:=ih hp.2 (b:=b.erase x) fun y c=>(List.mem_erase_of_ne (by have:=hp.1 y c;omega)).2 (h y (by simp [c]));rw [List.length_erase_of_mem d] at f;have:=List.length_pos_of_mem d;simp only [List.length_cons];omega
theorem qkj {l : List qd} {a b y : Int} (m : a < b) (h : hasR l a y∧¬ hasR l b y∨¬ hasR l a y∧hasR l b y) : ∃ c∈xsOf l,a < c∧c≤b:=by
  have f : ∀ r∈l,r.X0∈xsOf l∧r.X1∈xsOf l:=fun r d=>by unfold xsOf;simp only [List.mem_flatMap];exact ⟨⟨r,d,qe⟩,⟨r,d,qe⟩⟩
  rcases h with ⟨⟨r,d,g⟩,j⟩ | ⟨k,⟨r,d,g⟩⟩
  · refine ⟨r.X1,(f r d).2,q6,Int.not_lt.1 fun n=>j ⟨r,d,q6⟩⟩
  · refine ⟨r.X0,(f r d).1,Int.not_le.1 fun n=>k ⟨r,d,q6⟩,q6⟩
theorem qkk {l : List qd} {a b x : Int} (m : a < b) (h : hasR l x a∧¬ hasR l x b∨¬ hasR l x a∧hasR l x b) : ∃ c∈ysOf l,a < c∧c≤b:=by
  have f : ∀ r∈l,r.Y0∈ysOf l∧r.Y1∈ysOf l:=fun r d=>by unfold ysOf;simp only [List.mem_flatMap];exact ⟨⟨r,d,qe⟩,⟨r,d,qe⟩⟩
  rcases h with ⟨⟨r,d,g⟩,j⟩ | ⟨k,⟨r,d,g⟩⟩
  · refine ⟨r.Y1,(f r d).2,q6,Int.not_lt.1 fun n=>j ⟨r,d,q6⟩⟩
  · refine ⟨r.Y0,(f r d).1,Int.not_le.1 fun n=>k ⟨r,d,q6⟩,q6⟩
def Aro (c : List Int) (d : Int) (xs : List Int) : Prop:=xs.Pairwise (· < ·)∧∀ v,v∈xs↔v + d∈c∨v - d∈c
theorem qj9 {l : List qd} {d : Int} {xs : List Int} (hd : 0≤d) (k : Aro (xsOf l) d xs) {i : Nat} (hi : i + 1 < xs.length) {x y : Int} (s : xs[i]≤x) (t : x < xs[i + 1]) : Deep l d xs[i] y↔Deep l d x y:=by
  rcases Int.lt_or_eq_of_le s with q | n
  · constructor
    · intro h g f r j;by_cases m : g≤xs[i] + d
      · exact h g f q6 j
      · refine Classical.byContradiction fun o=>?_;obtain ⟨c,p,c1,c2⟩:=qkj (l:=l) (a:=xs[i] + d) (b:=g) (y:=f) q6 (.inl ⟨h _ f q6 j,o⟩);exact q8e k.1 hi ((k.2 (c - d)).2 (.inl (by rw [Int.sub_add_cancel];exact p))) q6 q6
    · intro h g f r j;by_cases m : x - d≤g
      · exact h g f q6 j
      · refine Classical.byContradiction fun o=>?_;obtain ⟨c,p,c1,c2⟩:=qkj (l:=l) (a:=g) (b:=x - d) (y:=f) q6 (.inr ⟨o,h _ f q6 j⟩);exact q8e k.1 hi ((k.2 (c + d)).2 (.inr (by rw [Int.add_sub_cancel];exact p))) q6 q6
  · rw [n]
theorem qja {l : List qd} {d : Int} {ys : List Int} (hd : 0≤d) (k : Aro (ysOf l) d ys) {i : Nat} (hi : i + 1 < ys.length) {x y : Int} (s : ys[i]≤y) (t : y < ys[i + 1]) : Deep l d x ys[i]↔Deep l d x y:=by
  rcases Int.lt_or_eq_of_le s with q | n
  · constructor
    · intro h g f j r;by_cases m : f≤ys[i] + d
      · exact h g f j q6
      · refine Classical.byContradiction fun o=>?_;obtain ⟨c,p,c1,c2⟩:=qkk (l:=l) (a:=ys[i] + d) (b:=f) (x:=g) q6 (.inl ⟨h g _ j q6,o⟩);exact q8e k.1 hi ((k.2 (c - d)).2 (.inl (by rw [Int.sub_add_cancel];exact p))) q6 q6
    · intro h g f j r;by_cases m : y - d≤f
      · exact h g f j q6
      · refine Classical.byContradiction fun o=>?_;obtain ⟨c,p,c1,c2⟩:=qkk (l:=l) (a:=f) (b:=y - d) (x:=g) q6 (.inr ⟨o,h g _ j q6⟩);exact q8e k.1 hi ((k.2 (c + d)).2 (.inr (by rw [Int.add_sub_cancel];exact p))) q6 q6
  · rw [n]
theorem qrj {l : List qd} {d : Int} {xs : List Int} (b : Aro (xsOf l) d xs) {x y : Int} (hd : 0≤d) (h : Deep l d x y) : ∃ (i : Nat) (h : i + 1 < xs.length),xs[i]≤x∧x < xs[i + 1]:=by
  have c : ∀ r∈l,r.X0∈xsOf l∧r.X1∈xsOf l:=fun r a=>by unfold xsOf;simp only [List.mem_flatMap];exact ⟨⟨r,a,qe⟩,⟨r,a,qe⟩⟩
  obtain ⟨r,a,g⟩:=h (x - d) y q6 q6;obtain ⟨s,hs,k⟩:=h (x + d) y q6 q6;exact qhe b.1 ((b.2 (r.X0 + d)).2 (.inr (by rw [Int.add_sub_cancel];exact (c r a).1))) ((b.2 (s.X1 - d)).2 (.inl (by rw [Int.sub_add_cancel];exact (c s hs).2))) q6 q6
theorem qrk {l : List qd} {d : Int} {ys : List Int} (b : Aro (ysOf l) d ys) {x y : Int} (hd : 0≤d) (h : Deep l d x y) : ∃ (i : Nat) (h : i + 1 < ys.length),ys[i]≤y∧y < ys[i + 1]:=by
  have c : ∀ r∈l,r.Y0∈ysOf l∧r.Y1∈ysOf l:=fun r a=>by unfold ysOf;simp only [List.mem_flatMap];exact ⟨⟨r,a,qe⟩,⟨r,a,qe⟩⟩
  obtain ⟨r,a,g⟩:=h x (y - d) q6 q6;obtain ⟨s,hs,k⟩:=h x (y + d) q6 q6;exact qhe b.1 ((b.2 (r.Y0 + d)).2 (.inr (by rw [Int.add_sub_cancel];exact (c r a).1))) ((b.2 (s.Y1 - d)).2 (.inl (by rw [Int.sub_add_cancel];exact (c s hs).2))) q6 q6
theorem qib {c : List Int} {d : Int} (u : c.length≤1000) (s : ∀ v∈c,-1000000≤v∧v≤1000000) (hd : 0≤d∧d≤1000000) :
    ∃ xs,q6j c d = some xs∧Aro c d xs∧xs.length≤2 * c.length:=by
  have f : ∀ n,((c.take n).flatMap fun v=>[v - d,v + d]).length = 2 * (c.take n).length:=fun n=>by
    induction c.take n with
    | nil=>rfl
    | cons a l ih=>simp only [List.flatMap_cons,List.length_append,List.length_cons,List.length_nil];omega
  have key:=Yu c q6 (fun v=>[v - d,v + d]) [] (fun o=>o) (q6k c d) (fun k g o r=>by
    have t : o.length≤2 * k:=by rw [r,List.nil_append,f,List.length_take];omega
    have j:=s _ (Kc g);simp only [q6k,dlt g,qz,Qq g,qj,w64s g q6,Ql (x:=c[k] - d) q6,Ql (x:=c[k] + d) q6];rw [Ke (by simp;omega)]
    rfl) (fun o=>by simp only [q6k,dnl,qx])
  rw [List.nil_append] at key;have b:=f c.length;rw [List.take_length] at b;obtain ⟨q,m,w⟩:=Zq (l:=c.flatMap fun v=>[v - d,v + d]) q6;refine ⟨_,by unfold q6j;rw [key];simp only [qj,q],⟨m.1,fun v=>?_⟩,q6⟩;rw [m.2 v,List.mem_flatMap];constructor
  · rintro ⟨a,p,j⟩;simp only [List.mem_cons,List.not_mem_nil,or_false] at j;rcases j with rfl | rfl
    · exact .inl (by rw [Int.sub_add_cancel];exact p)
    · exact .inr (by rw [Int.add_sub_cancel];exact p)
  · rintro (h | h)
    · exact ⟨v + d,h,qe⟩
    · exact ⟨v - d,h,qe⟩
end Go.Sh
namespace Go.Sh
open Go Go.Am
theorem qcz {p q : List qd} (h : p.length + q.length≤100000) : Zv (xsOf p ++ xsOf q) = some (Qt (xsOf p ++ xsOf q))∧Yo (xsOf p ++ xsOf q) (Qt (xsOf p ++ xsOf q))∧(Qt (xsOf p ++ xsOf q)).length≤2 * (p.length + q.length):=by
  have f:=Ze p;have d:=Ze q;obtain ⟨a,b,c⟩:=Zq (l:=xsOf p ++ xsOf q) (by simp;omega);exact ⟨a,b,by simp at c;omega⟩
theorem qd0 {p q : List qd} (h : p.length + q.length≤100000) : Zv (ysOf p ++ ysOf q) = some (Qt (ysOf p ++ ysOf q))∧Yo (ysOf p ++ ysOf q) (Qt (ysOf p ++ ysOf q))∧(Qt (ysOf p ++ ysOf q)).length≤2 * (p.length + q.length):=by
  have f:=q27 p;have d:=q27 q;obtain ⟨a,b,c⟩:=Zq (l:=ysOf p ++ ysOf q) (by simp;omega);exact ⟨a,b,by simp at c;omega⟩
theorem qmu {p q : List qd} (h : p.length + q.length≤100000) : q35 p q = some (Qt (xsOf p ++ xsOf q)):=by
  have c : loop (q18 p) (0,[]) = some (xsOf p):=by
    have:=Yu p q6 (fun r=>[r.X0,r.X1]) [] (fun o=>o) (q18 p) (fun k a o b=>by
      have d : o.length = 2 * k:=by rw [b,List.nil_append];have:=Ze (p.take k);rw [List.length_take,Nat.min_eq_left q6] at this;exact this
      simp only [q18,dlt a,qz,Qq a,qj,w64s a q6];rw [Ke (by simp;omega)]
      rfl) (fun o=>by simp only [q18,dnl,qx])
    rw [List.nil_append] at this;exact this
  have f : loop (q19 q) (0,xsOf p) = some (xsOf p ++ xsOf q):=by
    have hp:=Ze p
    exact Yu q q6 (fun r=>[r.X0,r.X1]) (xsOf p) (fun o=>o) (q19 q) (fun k a o b=>by
      have d : o.length = 2 * p.length + 2 * k:=by
        rw [b,List.length_append,hp];have:=Ze (q.take k);rw [List.length_take,Nat.min_eq_left q6] at this;unfold xsOf at this;omega
      simp only [q19,dlt a,qz,Qq a,qj,w64s a q6];rw [Ke (by simp;omega)]
      rfl) (fun o=>by simp only [q19,dnl,qx])
  unfold q35;simp only [c,f,qj,(qcz h).1]
theorem qmw {p q : List qd} (h : p.length + q.length≤100000) : q36 p q = some (Qt (ysOf p ++ ysOf q)):=by
  have c : loop (q1a p) (0,[]) = some (ysOf p):=by
    have:=Yu p q6 (fun r=>[r.Y0,r.Y1]) [] (fun o=>o) (q1a p) (fun k a o b=>by
      have d : o.length = 2 * k:=by rw [b,List.nil_append];have:=q27 (p.take k);rw [List.length_take,Nat.min_eq_left q6] at this;exact this
      simp only [q1a,dlt a,qz,Qq a,qj,w64s a q6];rw [Ke (by simp;omega)]
      rfl) (fun o=>by simp only [q1a,dnl,qx])
    rw [List.nil_append] at this;exact this
  have f : loop (q1b q) (0,ysOf p) = some (ysOf p ++ ysOf q):=by
    have hp:=q27 p
    exact Yu q q6 (fun r=>[r.Y0,r.Y1]) (ysOf p) (fun o=>o) (q1b q) (fun k a o b=>by
      have d : o.length = 2 * p.length + 2 * k:=by
        rw [b,List.length_append,hp];have:=q27 (q.take k);rw [List.length_take,Nat.min_eq_left q6] at this;unfold ysOf at this;omega
      simp only [q1b,dlt a,qz,Qq a,qj,w64s a q6];rw [Ke (by simp;omega)]
      rfl) (fun o=>by simp only [q1b,dnl,qx])
  unfold q36;simp only [c,f,qj,(qd0 h).1]
open Classical in
theorem qpy (kind : Int) {p q : List qd} (h : p.length + q.length≤100000) (x : Int) :
    Uf (Qt (ysOf p ++ ysOf q)) ((Qt (ysOf p ++ ysOf q)).map fun y=>decide (Ky kind (hasR p x y) (hasR q x y))) = some (secJ kind p q x):=by
  obtain ⟨_,a,g⟩:=qd0 h;generalize Qt (ysOf p ++ ysOf q) = ys at a g ⊢;obtain ⟨c,o,k⟩:=q8s ys (ys.map fun y=>decide (Ky kind (hasR p x y) (hasR q x y))) a.1 q6 qe;rw [o];have s:=J0 p x;have r:=J0 q x;have m:=(q2x kind (covS p x) (covS q x) q6 q6).2;have mp : ∀ z∈ends (covS p x),z∈ys:=fun z j=>(a.2 z).2 (List.mem_append.2 (.inl (qd2 j)));have mq : ∀ z∈ends (covS q x),z∈ys:=fun z j=>(a.2 z).2 (List.mem_append.2 (.inr (qd2 j)));congr 1;refine q29 k.can m.can fun z=>?_;unfold secJ;rw [k.pts z,m.pts z];constructor
  · rintro ⟨i,hi,n,_,f,b,d⟩;simp only [List.getElem_map,decide_eq_true_eq] at f;refine (qda ?_ ?_).2 f
    · rw [Ui a.1 mp hi b d,Zj]
    · rw [Ui a.1 mq hi b d,Zj]
  · intro l
    have : ∃ i,∃ (h : i + 1 < ys.length),ys[i]≤z∧z < ys[i + 1]:=by
      rcases qdb l with h | h
      · exact q5u a.1 mp h
      · exact q5u a.1 mq h
    obtain ⟨i,hi,b,d⟩:=this;refine ⟨i,hi,by simp;omega,q6,?_,b,d⟩;simp only [List.getElem_map,decide_eq_true_eq];refine (qda ?_ ?_).1 l
    · rw [Ui a.1 mp hi b d,Zj]
    · rw [Ui a.1 mq hi b d,Zj]
open Classical in
theorem qt1 (kind : Int) {p q : List qd} (h : p.length + q.length≤100000) (ys xs : List Int) (d : ys.length≤1000000) (i : Nat) (hi : i < xs.length) (a : List qp × Int × Int × List qd) (f : a.2.2.1 = i) :
    loop (q16 ys xs a p q kind) (0,[]) = some (ys.map fun y=>decide (Ky kind (hasR p xs[i] y) (hasR q xs[i] y))):=by
  have:=Zu ys (fun y=>decide (Ky kind (hasR p xs[i] y) (hasR q xs[i] y))) [] (fun o=>o) (q16 ys xs a p q kind) (fun k b o c=>by
    simp only [q16,dlt b,qz,f,Qq b,Qq hi,qj,qdw p _ _ q6,qdw q _ _ q6,qfu,w64s b d];rw [Ke (by simp at c ⊢;omega)]
    first | rfl | (rw [qj];congr)) (fun o=>by simp only [q16,dnl,qx])
  rw [List.nil_append] at this;exact this
theorem qt3 (kind : Int) {p q : List qd} (h : p.length + q.length≤100000) {xs : List Int} (hx : xs.length≤1000000) {i : Nat} (hi : i + 1 < xs.length) (s : Mg qp qd) (hl : (s.flat putR).length + (secJ kind p q xs[i]).length≤1000000)
    (h0 : i = 0→s.sec = []) (h1 : 0 < i→s.hi = xs[i]) :
    Js xs (Qt (ysOf p ++ ysOf q)) p q kind (s.sec,(s.done.length : Int),(i : Int),s.flat putR) =
      some (.inl ((addM putR s xs[i] xs[i + 1] (secJ kind p q xs[i])).sec,((addM putR s xs[i] xs[i + 1] (secJ kind p q xs[i])).done.length : Int),((i + 1 : Nat) : Int),(addM putR s xs[i] xs[i + 1] (secJ kind p q xs[i])).flat putR)):=by
  have j : i < xs.length:=by omega
  have x : w64 ((i : Int) + 1) = ((i + 1 : Nat) : Int):=w64s j hx;have hy:=(qd0 h).2.2;have ae : (s.flat putR).length = s.done.length + s.sec.length:=by simp [Mg.flat]
  have t:=qt1 kind h (Qt (ysOf p ++ ysOf q)) xs q6 i j (s.sec,(s.done.length : Int),(i : Int),s.flat putR) rfl;unfold Js;simp only [x,dlt hi,qz,t,qj,qpy kind h];generalize hc : secJ kind p q xs[i] = c at hl ⊢;by_cases a : 0 < i∧c = s.sec
  · obtain ⟨b,l⟩:=a;have hb : decide ((i : Int) > 0) = true:=Qc q6
    have d:=q3z (fun v : qd=>({X0:=v.X0,Y0:=v.Y0,X1:=xs[i + 1],Y1:=v.Y1} : qd)) s.done (s.sec.map (putR s.lo s.hi)) (by simp;omega) (q17 xs (s.sec,(s.done.length : Int),(i : Int),s.flat putR)) (fun k o f ho=>by
      have h5 : (s.done ++ s.sec.map (putR s.lo s.hi)).length = (s.flat putR).length:=rfl
      simp only [q17,dlt f,qz,Qq f,Qq hi,x,qj,w64s f q6,Int.toNat_natCast]) (fun o=>by simp only [q17,dnl,qx])
    have y : q2k c s.sec = some true:=by rw [qad _ _ q6];simp [l]
    have d : loop (q17 xs (s.sec,(s.done.length : Int),(i : Int),s.flat putR)) ((s.done.length : Int),s.flat putR) = _:=d;simp only [hb,qz,y,qj,d];rcases Jc putR s xs[i] xs[i + 1] c with ⟨_,_,_,g⟩ | ⟨h3,g⟩
    · rw [g];simp only [Mg.flat,List.map_map];rfl
    · have m : c = []:=Classical.byContradiction fun hn=>h3 ⟨hn,l,h1 b⟩;rw [g];simp [Mg.flat,← l,m]
  · have r : (cond (decide ((i : Int) > 0)) ((q2k c s.sec).bind fun n=>some n) (some false)) = some false:=by
      by_cases b : 0 < i
      · have hb : decide ((i : Int) > 0) = true:=Qc q6;have u : c≠s.sec:=fun h=>a ⟨b,h⟩;rw [hb,qz,qad _ _ q6];simp [u]
      · have hb : decide ((i : Int) > 0) = false:=Qe q6;rw [hb,qx]
    have w:=Zu c (putR xs[i] xs[i + 1]) (s.flat putR) (fun o=>(c,((s.flat putR).length : Int),o)) (q2l c xs (s.sec,(s.done.length : Int),(i : Int),s.flat putR)) (fun k f o ho=>by
      simp only [q2l,dlt f,qz,Qq f,Qq j,Qq hi,x,qj,w64s f q6];rw [Ke (by simp;omega)]
      rfl) (fun o=>by simp only [q2l,dnl,qx])
    have g : addM putR s xs[i] xs[i + 1] c = ⟨s.flat putR,c,xs[i],xs[i + 1]⟩:=by
      rcases Jc putR s xs[i] xs[i + 1] c with ⟨g1,z,_,_⟩ | ⟨_,g⟩
      · refine absurd ?_ a;refine ⟨Nat.pos_of_ne_zero fun h=>g1 ?_,z⟩;rw [z,h0 h]
      · exact g
    rw [g];simp only [r,qj,qx,w];simp [Mg.flat]
end Go.Sh
namespace Go.Sh
open Go Go.Am
theorem qwx {p : List qd} {A B : Nat} (h : p.length≤100000) (l : (Qt (xsOf p ++ xsOf [])).length≤A + 1) (j : ∀ x,(secJ 2 p [] x).length≤B) (z : A * B≤800000) (hB : B≤100000) : Z8 2 p [] = some (mrgR 2 p []):=by
  have d : p.length + ([] : List qd).length≤100000:=by simpa using h
  unfold Z8;rw [qmu d,qmw d];simp only [qj];obtain ⟨_,n,a⟩:=qcz d;have a : (Qt (xsOf p ++ xsOf [])).length≤200000:=by simp only [List.length_nil] at a;omega
  have b : ∀ k,((Qy putR Qu ((K5 (Qt (xsOf p ++ xsOf [])) (secJ 2 p [])).take k)).flat putR).length≤800000:=fun k=>by
    have h1:=q98 putR (s0:=Qu) (M:=B) (steps:=(K5 (Qt (xsOf p ++ xsOf [])) (secJ 2 p [])).take k) (fun t w=>qhi (M:=B) j t (List.mem_of_mem_take w))
    have v : ((K5 (Qt (xsOf p ++ xsOf [])) (secJ 2 p [])).take k).length≤A:=by
      rw [List.length_take,J8];omega
    have h3 : (Qu.flat putR : List qd).length = 0:=rfl;have h4 : ((K5 (Qt (xsOf p ++ xsOf [])) (secJ 2 p [])).take k).length * B≤A * B:=Nat.mul_le_mul_right _ v;omega
  unfold mrgR mrg;generalize Qt (xsOf p ++ xsOf []) = xs at n l b a ⊢;generalize c : K5 xs (secJ 2 p []) = steps at b ⊢;have s : steps.length = xs.length - 1:=by rw [← c];exact J8 _ _
  have key:=Yr (f:=Js xs (Qt (ysOf p ++ ysOf [])) p [] 2) (fun k=>((Qy putR Qu (steps.take k)).sec,((Qy putR Qu (steps.take k)).done.length : Int),(k : Int),(Qy putR Qu (steps.take k)).flat putR))
    steps.length ((Qy putR Qu steps).flat putR) (fun k o=>by
      have g : k + 1 < xs.length:=by omega
      have y : steps[k] = (xs[k],xs[k + 1],secJ 2 p [] xs[k]):=by subst c;exact Zd o g
      have u:=j xs[k];have r:=b k
      have:=qt3 2 d (xs:=xs) q6 g (Qy putR Qu (steps.take k)) q6 (fun d=>by subst d;rfl) (fun q=>by
        obtain ⟨m,rfl⟩ : ∃ m,k = m + 1:=⟨k - 1,q6⟩
        rw [Uq putR q6,q8m];subst c
        rw [Zd q6 q6])
      rw [this,Uq putR o,y]) (by
      rw [List.take_length]
      have hb : decide (w64 ((steps.length : Int) + 1) < (xs.length : Int)) = false:=by
        rw [Ql q6];exact Qe q6
      unfold Js
      simp only [hb,qx]) (Nat.zero_le _)
  have key : loop (Js xs (Qt (ysOf p ++ ysOf [])) p [] 2) ([],0,0,[]) = some ((Qy putR Qu steps).flat putR):=key;rw [key];rfl
def stripR (t : Int × Int × List qp) : List qd:=t.2.2.map (putR t.1 t.2.1)
theorem qkn {t : Int × Int × List qp} {x y : Int} : hasR (stripR t) x y↔(t.1≤x∧x < t.2.1)∧has t.2.2 y:=by
  unfold stripR hasR has;constructor
  · rintro ⟨r,c,h⟩;obtain ⟨s,hs,rfl⟩:=List.mem_map.1 c;unfold putR at h;simp only at h;exact ⟨⟨h.1,h.2.1⟩,s,hs,h.2.2⟩
  · rintro ⟨a,s,hs,b⟩;exact ⟨putR t.1 t.2.1 s,List.mem_map.2 ⟨s,hs,rfl⟩,a.1,a.2,b⟩
theorem qsi {α : Type} {f : α→List qd} {l : List α} {x y : Int} : hasR (l.flatMap f) x y↔∃ a∈l,hasR (f a) x y:=by
  unfold hasR;constructor
  · rintro ⟨r,b,h⟩;obtain ⟨a,c,b⟩:=List.mem_flatMap.1 b;exact ⟨a,c,r,b,h⟩
  · rintro ⟨a,c,r,b,h⟩;exact ⟨r,List.mem_flatMap.2 ⟨a,c,b⟩,h⟩
theorem q5z {a : List Int} {σ : Type} [DecidableEq σ] {sec : Int→List σ} {t : Int × Int × List σ} : t∈K5 a sec↔∃ (i : Nat) (h : i + 1 < a.length),t = (a[i],a[i + 1],sec a[i]):=by
  constructor
  · intro h;obtain ⟨i,hi,rfl⟩:=List.getElem_of_mem h;have b:=J8 a sec;exact ⟨i,q6,Zd hi q6⟩
  · rintro ⟨i,h,rfl⟩;have b:=J8 a sec;have hi : i < (K5 a sec).length:=by omega
    rw [← Zd hi h];exact Kc hi
theorem q5t {α β : Type} {f : α→List β} {M : Nat} : ∀ {l : List α},(∀ a∈l,(f a).length≤M)→(l.flatMap f).length≤l.length * M
  | [],_=>by simp
  | a::l,h=>by
    have c:=q5t (l:=l) fun b hb=>h b (by simp [hb])
    have:=h a qe
    rw [List.flatMap_cons,List.length_append,List.length_cons,Nat.add_mul]
    omega
open Classical in
noncomputable def secD (ys : List Int) (l : List qd) (d x : Int) : List qp:=(Uf ys (ys.map fun y=>decide (Deep l d x y))).getD []
open Classical in
theorem qgw {ys : List Int} {l : List qd} {d : Int} (hd : 0≤d) (g : Aro (ysOf l) d ys) (n : ys.length≤1000) (x : Int) :
    Uf ys (ys.map fun y=>decide (Deep l d x y)) = some (secD ys l d x)∧Can (secD ys l d x)∧(secD ys l d x).length≤ys.length∧∀ y,has (secD ys l d x) y↔Deep l d x y:=by
  obtain ⟨c,k,j⟩:=q8s ys (ys.map fun y=>decide (Deep l d x y)) g.1 q6 qe;have e : secD ys l d x = c:=by unfold secD;rw [k];rfl
  rw [e];refine ⟨k,j.can,by have:=j.len;omega,fun y=>?_⟩;rw [j.pts];constructor
  · rintro ⟨i,hi,m,_,a,b,f⟩;simp only [List.getElem_map,decide_eq_true_eq] at a;exact (qja hd g hi b f).1 a
  · intro h;obtain ⟨i,hi,b,f⟩:=qrk g hd h;refine ⟨i,hi,by simp;omega,q6,?_,b,f⟩;simp only [List.getElem_map,decide_eq_true_eq];exact (qja hd g hi b f).2 h
theorem qth {xs ys : List Int} {l : List qd} {d : Int} (hd : 0≤d) (a : Aro (xsOf l) d xs) (f : Aro (ysOf l) d ys) (g : ys.length≤1000) (x y : Int) : hasR ((K5 xs (secD ys l d)).flatMap stripR) x y↔Deep l d x y:=by
  rw [qsi];constructor
  · rintro ⟨t,j,h⟩;obtain ⟨i,hi,rfl⟩:=q5z.1 j;rw [qkn] at h;exact (qj9 hd a hi h.1.1 h.1.2).1 (((qgw hd f g xs[i]).2.2.2 y).1 h.2)
  · intro h;obtain ⟨i,hi,b,c⟩:=qrj a hd h;refine ⟨_,q5z.2 ⟨i,hi,rfl⟩,?_⟩;rw [qkn];exact ⟨⟨b,c⟩,((qgw hd f g xs[i]).2.2.2 y).2 ((qj9 hd a hi b c).2 h)⟩
open Classical in
theorem qtg {xs ys : List Int} {l : List qd} {d : Int} (t : Z4 l = 0) (hd : 0≤d∧d≤1000000) (u : ys.length≤1000) (m : ∀ y∈ys,-2000000≤y∧y≤2000000) {i : Nat} (hi : i < xs.length) (a : -2000000≤xs[i]∧xs[i]≤2000000) (o : List qd) :
    loop (q4n ys xs ((i : Int),o) l d ((2 * d + 1) * (2 * d + 1)) ((2 * d + 1) * (2 * d + 1))) (0,[]) = some (ys.map fun y=>decide (Deep l d xs[i] y)):=by
  obtain ⟨j,p,c⟩:=q8t.1 t
  have:=Zu ys (fun y=>decide (Deep l d xs[i] y)) [] (fun o=>o) (q4n ys xs ((i : Int),o) l d ((2 * d + 1) * (2 * d + 1)) ((2 * d + 1) * (2 * d + 1))) (fun k f q s=>by
    have hb:=m _ (Kc f);have b:=qrc (x:=xs[i]) (y:=ys[k]) c p hd a hb;simp only [q4n,dlt f,qz,Qq hi,Qq f,qj,qx4 j p hd a hb,w64s f (by omega : ys.length≤1000000)]
    have e : (cond (decide (Yw l xs[i] ys[k] d ≥ (2 * d + 1) * (2 * d + 1))) (some (decide (Yw l xs[i] ys[k] d≤(2 * d + 1) * (2 * d + 1)))) (some false)) = some (decide (Deep l d xs[i] ys[k])):=by
      by_cases h : Deep l d xs[i] ys[k]
      · have r:=b.2 h;rw [Qc h,Qc (by omega : Yw l xs[i] ys[k] d ≥ (2 * d + 1) * (2 * d + 1)),qz,Qc q6]
      · have r : ¬ Yw l xs[i] ys[k] d = (2 * d + 1) * (2 * d + 1):=fun g=>h (b.1 g);rw [Qe h];by_cases n : Yw l xs[i] ys[k] d ≥ (2 * d + 1) * (2 * d + 1)
        · rw [Qc n,qz,Qe q6]
        · rw [Qe n,qx]
    rw [e];simp only [qj];rw [Ke (by simp at s ⊢;omega)]
    rfl) (fun o=>by simp only [q4n,dnl,qx])
  rw [List.nil_append] at this;exact this
theorem q14r {l : List qd} (b : ∀ r∈l,vR r) : (∀ v∈xsOf l,-1000000≤v∧v≤1000000)∧∀ v∈ysOf l,-1000000≤v∧v≤1000000:=by
  constructor
  · intro v h;unfold xsOf at h;obtain ⟨r,a,h⟩:=List.mem_flatMap.1 h;have:=b r a;unfold vR at this;simp only [List.mem_cons,List.not_mem_nil,or_false] at h;omega
  · intro v h;unfold ysOf at h;obtain ⟨r,a,h⟩:=List.mem_flatMap.1 h;have:=b r a;unfold vR at this;simp only [List.mem_cons,List.not_mem_nil,or_false] at h;omega
theorem qx8 {l : List qd} {d : Int} (hc : Z4 l = 0) (hl : l.length≤30) (hd : 0≤d∧d≤1000000) : q9u l d ((2 * d + 1) * (2 * d + 1)) ((2 * d + 1) * (2 * d + 1)) = some (shrS d l):=by
  obtain ⟨bh,m,ai⟩:=q8t.1 hc;obtain ⟨_,sx,lx⟩:=qcz (p:=l) (q:=[]) (by simp;omega);obtain ⟨_,sy,ly⟩:=qd0 (p:=l) (q:=[]) (by simp;omega);simp only [List.length_nil,Nat.add_zero] at lx ly;have mx : ∀ v,v∈Qt (xsOf l ++ xsOf [])↔v∈xsOf l:=fun v=>by rw [sx.2];simp [xsOf]
  have my : ∀ v,v∈Qt (ysOf l ++ ysOf [])↔v∈ysOf l:=fun v=>by rw [sy.2];simp [ysOf]
  have hb:=q14r m;obtain ⟨xs,ex,⟨am,au⟩,nx⟩:=qib (c:=Qt (xsOf l ++ xsOf [])) (d:=d) q6 (fun v h=>hb.1 v ((mx v).1 h)) hd;obtain ⟨ys,ey,⟨al,ay⟩,ny⟩:=qib (c:=Qt (ysOf l ++ ysOf [])) (d:=d) q6 (fun v h=>hb.2 v ((my v).1 h)) hd;have ak : Aro (xsOf l) d xs:=⟨am,fun v=>by rw [au v,mx,mx]⟩
  have ab : Aro (ysOf l) d ys:=⟨al,fun v=>by rw [ay v,my,my]⟩
  have aq : ∀ v∈xs,-2000000≤v∧v≤2000000:=fun v h=>by
    rcases (ak.2 v).1 h with g | g
    · have:=hb.1 _ g;omega
    · have:=hb.1 _ g;omega
  have an : ∀ v∈ys,-2000000≤v∧v≤2000000:=fun v h=>by
    rcases (ab.2 v).1 h with g | g
    · have:=hb.2 _ g;omega
    · have:=hb.2 _ g;omega
  have aw : xs.length≤120:=by omega
  have bg : ys.length≤120:=by omega
  have a:=qgw hd.1 ab (l:=l) q6;have w:=qth hd.1 ak ab q6
  have ax : ∀ t∈K5 xs (secD ys l d),(stripR t).length≤120:=fun t ht=>by
    obtain ⟨i,hi,rfl⟩:=q5z.1 ht;unfold stripR;rw [List.length_map];have:=(a xs[i]).2.2.1;simp only;omega
  have bl:=J8 xs (secD ys l d)
  have u : ∀ k,(((K5 xs (secD ys l d)).take k).flatMap stripR).length≤120 * 120:=fun k=>by
    have h1:=q5t (l:=(K5 xs (secD ys l d)).take k) (M:=120) fun t ht=>ax t (List.mem_of_mem_take ht);rw [List.length_take] at h1;have h2 : min k (K5 xs (secD ys l d)).length * 120≤120 * 120:=Nat.mul_le_mul_right _ q6;omega
  have ac : loop (q4m xs ys l d ((2 * d + 1) * (2 * d + 1)) ((2 * d + 1) * (2 * d + 1))) (0,[]) = some ((K5 xs (secD ys l d)).flatMap stripR):=by
    have key:=Yr (f:=q4m xs ys l d ((2 * d + 1) * (2 * d + 1)) ((2 * d + 1) * (2 * d + 1))) (fun k=>((k : Int),((K5 xs (secD ys l d)).take k).flatMap stripR)) (K5 xs (secD ys l d)).length ((K5 xs (secD ys l d)).flatMap stripR) (fun k hk=>by
      have z : k + 1 < xs.length:=by omega
      have n : k < xs.length:=by omega
      have hg:=Zd hk z;have hw : w64 ((k : Int) + 1) = ((k + 1 : Nat) : Int):=w64s n q6;have ah:=qtg hc hd q6 an n (aq _ (Kc n)) (((K5 xs (secD ys l d)).take k).flatMap stripR)
      have ao:=Zu (secD ys l d xs[k]) (putR xs[k] xs[k + 1]) (((K5 xs (secD ys l d)).take k).flatMap stripR) (fun o=>o) (q6l (secD ys l d xs[k]) xs ((k : Int),((K5 xs (secD ys l d)).take k).flatMap stripR)) (fun j hj o ho=>by
        have:=(a xs[k]).2.2.1;have:=u k;simp only [q6l,dlt hj,qz,Qq hj,Qq n,Qq z,hw,qj,w64s hj q6];rw [Ke (by simp;omega)]
        rfl) (fun o=>by simp only [q6l,dnl,qx])
      simp only [q4m,hw,dlt z,qz,ah,qj,(a xs[k]).1,ao];rw [List.take_succ_eq_append_getElem hk,List.flatMap_append,hg]
      simp [stripR]) (by
      have hb : decide (w64 (((K5 xs (secD ys l d)).length : Int) + 1) < (xs.length : Int)) = false:=by
        rw [Ql q6];exact Qe q6
      simp only [q4m,hb,qx,List.take_length]) (Nat.zero_le _)
    exact key
  have ad:=u (K5 xs (secD ys l d)).length;rw [List.take_length] at ad;have h0 : ((K5 xs (secD ys l d)).flatMap stripR).length + ([] : List qd).length≤100000:=by simp only [List.length_nil];omega
  obtain ⟨_,s3,_⟩:=qcz h0
  have ba : (Qt (xsOf ((K5 xs (secD ys l d)).flatMap stripR) ++ xsOf [])).length≤120:=by
    refine Nat.le_trans (qod s3.1 (b:=xs) fun v m=>?_) aw;have m:=(s3.2 v).1 m;simp only [xsOf,List.flatMap_nil,List.append_nil,List.mem_flatMap] at m;obtain ⟨r,⟨t,ht,hr⟩,m⟩:=m;obtain ⟨i,hi,rfl⟩:=q5z.1 ht;unfold stripR at hr;obtain ⟨s,_,rfl⟩:=List.mem_map.1 hr;simp only [putR,List.mem_cons,List.not_mem_nil,or_false] at m;rcases m with rfl | rfl <;> exact Kc _
  have aj : ∀ x,(secJ 2 ((K5 xs (secD ys l d)).flatMap stripR) [] x).length≤120:=fun x=>by
    have hj:=qe5 2 h0 x
    have hp : ∀ y,has (secJ 2 ((K5 xs (secD ys l d)).flatMap stripR) [] x) y↔has (secD ys l d x) y:=fun y=>by
      rw [hj.pts y,qd9,Zj,Zj,w,(a x).2.2.2 y];exact ⟨fun h=>h.elim id fun h=>absurd h (q2w x y),.inl⟩
    rw [q29 hj.can (a x).2.1 hp];have:=(a x).2.2.1;omega
  have aa:=qwx (p:=(K5 xs (secD ys l d)).flatMap stripR) (A:=120) (B:=120) q6 q6 aj q6 q6
  have ag : mrgR 2 ((K5 xs (secD ys l d)).flatMap stripR) [] = shrS d l:=qcr (q64 2 h0) (qh0 q6) fun x y=>by
    rw [qki q6,w,qzx ai q6 hd.1]
  unfold q9u;rw [qmu (p:=l) (q:=[]) (by simp;omega),qmw (p:=l) (q:=[]) (by simp;omega)];simp only [qj,ex,ey,ac,aa,ag]
theorem qx3 {l : List qd} {d : Int} (a : Z4 l = 0) (hd : 0≤d∧d≤1000000) : q6h l d = some 0:=by
  unfold q6h;rw [qww,a];simp only [qj,bne_self_eq_false,qx];rw [Qe (by omega : ¬ d < 0),Qe (by omega : ¬ d > 1000000)];rfl
theorem qx6 {l : List qd} {d : Int} (a : Z4 l = 0) (b : l.length≤30) (hd : 0≤d∧d≤1000000) : q6i l d = some (shrR d l):=by
  unfold q6i;rw [qx3 a hd];simp only [qj,bne_self_eq_false,qx,qx2 hd,qx8 a b hd];rw [qgz];by_cases h : 400 < (shrS d l).length
  · rw [qy h,Qc (by omega : ((shrS d l).length : Int) > 400)];rfl
  · rw [Q3 h,Qe (by omega : ¬ ((shrS d l).length : Int) > 400)];rfl
end Go.Sh
namespace Go.Sh
open Go Go.Am
theorem qyr (s : Mg qd qk) (a b : Int) (c : List qd) (hl : (s.flat putB).length + c.length≤1000000) :
    qa7 (s.flat putB) s.sec (s.done.length : Int) s.hi a b c = some ((addM putB s a b c).sec,((addM putB s a b c).done.length : Int),(addM putB s a b c).hi,(addM putB s a b c).flat putB):=by
  have w : (s.flat putB).length = s.done.length + s.sec.length:=by simp [Mg.flat]
  have d : s.sec.length≤1000000:=by omega
  unfold qa7;rcases Jc putB s a b c with ⟨p,r,x,m⟩ | ⟨p,m⟩
  · have hb : decide ((c.length : Int) > 0) = true:=Qc (by have:=List.length_pos_iff.2 p;omega);have y : (s.hi == a) = true:=by simpa using x
    rw [r] at hb;rw [m,r];simp only [hb,qz,y,qj,q95 _ _ d,decide_true]
    have:=q3z (fun v : qk=>({Lo:=v.Lo,Hi:=({X:=v.Hi.X,Y:=v.Hi.Y,Z:=b} : K7)} : qk)) s.done (s.sec.map (putB s.lo s.hi)) (by simp;omega) (q6z b) (fun k o f u=>by
      have l : (s.done ++ s.sec.map (putB s.lo s.hi)).length = (s.flat putB).length:=rfl
      simp only [q6z,dlt f,qz,Qq f,qj,w64s f q6,Int.toNat_natCast]) (fun o=>by simp only [q6z,dnl,qx])
    rw [show s.flat putB = s.done ++ s.sec.map (putB s.lo s.hi) from rfl,this];simp only [qj,Mg.flat,List.map_map];rfl
  · rw [m]
    have z : ((cond (decide ((c.length : Int) > 0)) (some (s.hi == a)) (some false)).bind fun g=>(cond g ((q3i s.sec c).bind fun j=>some j) (some false))) = some false:=by
      by_cases l : c = []
      · subst l;simp
      · have hb : decide ((c.length : Int) > 0) = true:=Qc (by have:=List.length_pos_iff.2 l;omega);simp only [hb,qz,qj,q95 _ _ d];by_cases q : s.hi = a
        · have t : s.sec≠c:=fun h=>p ⟨l,h.symm,q⟩;simp [q,t]
        · have : (s.hi == a) = false:=by simpa using q
          simp [this]
    have n:=Zu c (putB a b) (s.flat putB) (fun o=>(c,((s.flat putB).length : Int),b,o)) (q70 c a b (s.flat putB)) (fun k f o u=>by
      simp only [q70,dlt f,qz,Qq f,qj,w64s f q6];rw [Ke (by simp;omega)]
      rfl) (fun o=>by simp only [q70,dnl,qx])
    rw [← Option.bind_assoc,z];simp only [qj,qx,n];simp [Mg.flat]
end Go.Sh
namespace Go.Sh
open Go Go.Am
section
variable {σ β : Type} (put : Int→Int→σ→β)
def secT : List (Int × Int × List σ)→Int→List σ
  | [],_=>[]
  | t::r,x=>if t.1≤x∧x < t.2.1 then t.2.2 else secT r x
theorem qnn {c x : Int} : ∀ {l : List (Int × Int × List σ)},(∀ t∈l,c≤t.1)→x < c→secT l x = []
  | [],_,_=>rfl
  | t::r,h,hx=>by
    have b:=h t qe
    rw [secT,Q3 q6]
    exact qnn (fun u a=>h u (by simp [a])) hx
theorem InvG.up {s : Mg σ β} {f : List (Grp σ)} {a b : Int} (h : InvG put s f a) (c : a≤b) : InvG put s f b:=by
  rcases Int.lt_or_eq_of_le c with j | rfl
  · exact ⟨h.done,h.can,fun g d=>by have:=h.le g d;omega,fun _ g d k=>by have:=h.le g (by simp [d]);omega⟩
  · exact h
end
section
variable {σ β : Type} [DecidableEq σ] (put : Int→Int→σ→β)
theorem qjv : ∀ (l : List (Int × Int × List σ)) (c : Int) (s : Mg σ β) (g : List (Grp σ)),(∀ t∈l,c≤t.1∧t.1 < t.2.1)→l.Pairwise (fun t u=>t.2.1≤u.1)→InvG put s g c→
    ∃ f,(Qy put s l).flat put = K3 put f∧CanG f∧∀ x,secG f x = if x < c then secG (g ++ curG s) x else secT l x
  | [],c,s,g,_,_,hi=>by
    refine ⟨g ++ curG s,qfk put s g hi.done,hi.can,fun x=>?_⟩
    by_cases h : x < c
    · rw [qy h]
    · rw [Q3 h];exact q3h hi.le q6
  | t::l,c,s,g,h1,h2,hi=>by
    have q:=h1 t qe
    have hp:=List.pairwise_cons.1 h2
    have o : ∀ u∈l,t.2.1≤u.1:=hp.1
    obtain ⟨k,j,m⟩:=ql0 (b:=t.2.1) (c:=t.2.2) put q.2 (hi.up put q.1)
    obtain ⟨n,r,w,v⟩:=qjv l t.2.1 _ k (fun u p=>⟨o u p,(h1 u (by simp [p])).2⟩) hp.2 j
    refine ⟨n,r,w,fun x=>?_⟩
    rw [v x,m x]
    by_cases h : x < c
    · rw [qy q6,Q3 q6,qy h]
    · rw [Q3 h,secT]
      by_cases a : t.1≤x∧x < t.2.1
      · rw [qy a,qy a,qy a.2]
      · rw [Q3 a,Q3 a]
        by_cases d : x < t.2.1
        · rw [qy d,qnn o d]
          exact q3h hi.le q6
        · rw [Q3 d]
end
noncomputable def hsteps (d : Int) (gs : List (Grp qd)) : List (Int × Int × List qd):=gs.map fun g=>(g.lo,g.hi,shrS d g.sec)
theorem qh1 (d : Int) : shrS d [] = []:=by unfold shrS;rw [qy rfl]
theorem qno (d : Int) (x : Int) : ∀ a : List (Grp qd),secT (hsteps d a) x = shrS d (secG a x)
  | []=>(qh1 d).symm
  | g::a=>by
    have b:=qno d x a
    unfold hsteps at b ⊢
    rw [List.map_cons,secT,secG,b]
    split <;> rfl
theorem qkw {α : Type} {xs : List α} {i : Int} {k : Nat} (h : i = k) : idx xs i = xs[k]?:=by subst h;simp [idx]
theorem q101 {p : List qk} {pre post : List (Grp qd)} {g : Grp qd} (hp : p = K3 putB (pre ++ g::post)) (m : p.length≤1000) (w : g.lo < g.hi) (c : ∀ k∈post,g.hi≤k.lo) (v : qk) (r : v.Lo.Z = g.lo) :
    loop (q4s p v) (((K3 putB pre).length : Int),[]) = some ((((K3 putB (pre ++ [g])).length : Nat) : Int),g.sec):=by
  have hp2 : p = K3 putB pre ++ (g.sec.map (putB g.lo g.hi) ++ K3 putB post):=by
    rw [hp,q5s];simp [K3]
  have s : (K3 putB (pre ++ [g])).length = (K3 putB pre).length + g.sec.length:=by rw [q5s];simp [K3]
  have o : p.length = (K3 putB pre).length + (g.sec.length + (K3 putB post).length):=by rw [hp2];simp
  have l : ∀ k (h : k < g.sec.length),p[(K3 putB pre).length + k]? = some (putB g.lo g.hi g.sec[k]):=fun k h=>by
    rw [hp2,List.getElem?_append_right q6,List.getElem?_append_left (by simp;omega)];simp [h]
  rw [s]
  have key:=Yr (f:=q4s p v) (fun k=>((((K3 putB pre).length + k : Nat) : Int),g.sec.take k)) g.sec.length ((((K3 putB pre).length + g.sec.length : Nat) : Int),g.sec) (fun k j=>by
    have a : decide ((((K3 putB pre).length + k : Nat) : Int) < (p.length : Int)) = true:=Qc q6;have n : w64 ((((K3 putB pre).length + k : Nat) : Int) + 1) = (((K3 putB pre).length + (k + 1) : Nat) : Int):=by rw [Ql q6];omega
    have u : ((putB g.lo g.hi g.sec[k]).Lo.Z == v.Lo.Z) = true:=by rw [r];simp [putB]
    simp only [q4s,a,qz,qkw rfl,l k j,qj,u,n];rw [Ke (by simp;omega),List.take_succ_eq_append_getElem j]
    rfl) (by
    have b : (cond (decide ((((K3 putB pre).length + g.sec.length : Nat) : Int) < (p.length : Int))) ((idx p (((K3 putB pre).length + g.sec.length : Nat) : Int)).bind fun d=>some (d.Lo.Z == v.Lo.Z)) (some false)) = some false:=by
      by_cases a : (K3 putB pre).length + g.sec.length < p.length
      · rw [Qc q6,qz,Qq a,qj]
        have q : p[(K3 putB pre).length + g.sec.length]∈K3 putB post:=by
          have e : p[(K3 putB pre).length + g.sec.length]? = (K3 putB post)[0]?:=by
            rw [hp2,List.getElem?_append_right q6,List.getElem?_append_right qe];simp
          rw [List.getElem?_eq_getElem a] at e;exact List.mem_of_getElem? e.symm
        obtain ⟨k,j,t,_,e⟩:=qdm.1 q;rw [e];have:=c k j;congr 1;have : ¬ k.lo = v.Lo.Z:=by omega
        simpa [putB] using this
      · rw [Qe q6,qx]
    simp only [q4s,b,qj,qx,List.take_length]) (Nat.zero_le _)
  simpa using key
theorem qkt {p : List qk} {d : Int} (hd : 0≤d∧d≤1000000) (q : p.length≤160) {j : List (Grp qd)} (hp : p = K3 putB j) (v : CanG j) (hc : ∀ g∈j,Z4 g.sec = 0) :
    ∀ (rest pre : List (Grp qd)) (s : Mg qd qk),j = pre ++ rest→(s.flat putB).length≤400 * pre.length→
      loop (q3a p d) (((K3 putB pre).length : Int),s.sec,(s.done.length : Int),s.hi,s.flat putB) =
        some (if ∃ g∈rest,400 < (shrS d g.sec).length then .inr ([],4) else .inl ((Qy putB s (hsteps d rest)).sec,((Qy putB s (hsteps d rest)).done.length : Int),(Qy putB s (hsteps d rest)).hi,(Qy putB s (hsteps d rest)).flat putB))
  | [],pre,s,hpre,hs=>by
    have e : j = pre:=by simpa using hpre
    subst e
    rw [Q3 qe]
    refine Kk ?_
    have f : decide ((((K3 putB j).length : Nat) : Int) < (p.length : Int)) = false:=by rw [hp];exact dnl
    simp only [q3a,f,qx]
    rfl
  | g::rest,pre,s,hpre,hs=>by
    have u : g∈j:=by rw [hpre];simp
    have t:=v.1 g u
    have ai : p.length = (K3 putB pre).length + (g.sec.length + (K3 putB rest).length):=by rw [hp,hpre,q5s];simp [K3]
    have y : 0 < g.sec.length:=List.length_pos_iff.2 t.2
    have n:=v.2
    rw [hpre] at n
    have m : ∀ k∈rest,g.hi≤k.lo:=fun k c=>((List.pairwise_cons.1 (List.pairwise_append.1 n).2.1).1 k c).1
    have z : pre.length≤160:=by
      have : ∀ l : List (Grp qd),(∀ g∈l,g.sec≠[])→l.length≤(K3 putB l).length:=by
        intro l
        induction l with
        | nil=>simp
        | cons a l ih=>
          intro h;have h1:=ih fun k c=>h k (by simp [c]);have h2:=List.length_pos_iff.2 (h a qe);have e : (K3 putB (a::l)).length = a.sec.length + (K3 putB l).length:=by simp [K3]
          simp only [List.length_cons];omega
      have:=this pre fun k c=>(v.1 k (by rw [hpre];simp [c])).2;omega
    have f : decide (((K3 putB pre).length : Int) < (p.length : Int)) = true:=Qc q6
    have hx : p[(K3 putB pre).length]? = some (putB g.lo g.hi g.sec[0]):=by
      have e : K3 putB (g::rest) = g.sec.map (putB g.lo g.hi) ++ K3 putB rest:=by simp [K3]
      rw [hp,hpre,q5s,e,List.getElem?_append_right q6,List.getElem?_append_left (by simp;omega)];simp [y]
    have aa:=q101 (p:=p) (pre:=pre) (post:=rest) (g:=g) (by rw [hp,hpre]) q6 t.1 m (putB g.lo g.hi g.sec[0]) rfl
    have ab:=hc g u
    have ae : g.sec.length≤160:=by omega
    have ac:=qzy ab ae hd
    have b : q3a p d (((K3 putB pre).length : Int),s.sec,(s.done.length : Int),s.hi,s.flat putB) = if 400 < (shrS d g.sec).length then some (.inr (.inr ([],4))) else
        some (.inl ((((K3 putB (pre ++ [g])).length : Nat) : Int),(addM putB s g.lo g.hi (shrS d g.sec)).sec,((addM putB s g.lo g.hi (shrS d g.sec)).done.length : Int),(addM putB s g.lo g.hi (shrS d g.sec)).hi,(addM putB s g.lo g.hi (shrS d g.sec)).flat putB)):=by
      simp only [q3a,f,qz,qkw rfl,hx,qj,aa,ac,qgz]
      split
      · rfl
      · rename_i o
        have r:=qyr s g.lo g.hi (shrS d g.sec) q6
        have hz : (putB g.lo g.hi g.sec[0]).Lo.Z = g.lo∧(putB g.lo g.hi g.sec[0]).Hi.Z = g.hi:=⟨rfl,rfl⟩
        simp only [bne_self_eq_false,qx,hz.1,hz.2,r,qj]
    by_cases o : 400 < (shrS d g.sec).length
    · rw [qy o] at b
      rw [qy ⟨g,qe,o⟩]
      exact Kk b
    · rw [Q3 o] at b
      rw [Kz b]
      have ak:=qhx putB s g.lo g.hi (shrS d g.sec)
      have ih:=qkt hd q hp v hc rest (pre ++ [g]) (addM putB s g.lo g.hi (shrS d g.sec)) (by rw [hpre];simp) (by simp only [List.length_append,List.length_singleton];omega)
      rw [ih]
      have e1 : (∃ k∈g::rest,400 < (shrS d k.sec).length)↔∃ k∈rest,400 < (shrS d k.sec).length:=by
        constructor
        · rintro ⟨k,c,w⟩;rcases List.mem_cons.1 c with rfl | c
          · exact absurd w o
          · exact ⟨k,c,w⟩
        · rintro ⟨k,c,w⟩;exact ⟨k,by simp [c],w⟩
      by_cases x : ∃ k∈rest,400 < (shrS d k.sec).length
      · rw [qy x,qy (e1.2 x)]
      · rw [Q3 x,Q3 (fun h=>x (e1.1 h))]
        rfl
theorem qjs {c : List (Grp qd)} {g : Grp qd} (h : g∈c) : g.sec.length≤(K3 putB c).length:=by
  obtain ⟨a,b,rfl⟩:=List.append_of_mem h;rw [q5s];have : K3 putB (g::b) = g.sec.map (putB g.lo g.hi) ++ K3 putB b:=by simp [K3]
  rw [this];simp only [List.length_append,List.length_map];omega
theorem qsm {p : List qk} {d : Int} (hc : Yb p = 0) (hl : p.length≤160) (hd : 1≤d∧d≤1000000) :
    ∃ q,CanB q∧(∀ z,atB q z = shrS d (atB p z))∧q39 p d = some (if 400 < q.length then ([],4) else (q,0)):=by
  obtain ⟨ai,hv,f,hp,l,aj⟩:=q2a.1 hc;have v : ∀ z,atB p z = secG f z:=fun z=>by rw [hp,q3s l]
  have af : ∀ g∈f,Z4 g.sec = 0:=fun g a=>by
    have n:=l.1 g a;have e:=v g.lo;rw [q79 l g a g.lo (Int.le_refl _) n.1] at e;rw [← e];exact qip hc g.lo
  have aa : (hsteps d f).Pairwise (fun t u=>t.2.1≤u.1):=by
    unfold hsteps;rw [List.pairwise_map];exact l.2.imp fun h=>h.1
  have ag : ∀ c : Int,(∀ g∈f,c≤g.lo)→∀ t∈hsteps d f,c≤t.1∧t.1 < t.2.1:=fun c ad t y=>by
    obtain ⟨g,a,rfl⟩:=List.mem_map.1 y;exact ⟨ad g a,(l.1 g a).1⟩
  have r : ∀ g∈f,-1000000≤g.lo:=fun g a=>by
    have n:=l.1 g a;obtain ⟨t,y⟩:=List.exists_mem_of_ne_nil _ n.2;have:=hv (putB g.lo g.hi t) (by rw [hp];exact qdm.2 ⟨g,a,t,y,rfl⟩);unfold vB putB at this;simp only at this;omega
  obtain ⟨b,e1,w,e3⟩:=qjv putB (hsteps d f) (-1000000) (Qu : Mg qd qk) [] (ag _ r) aa ⟨rfl,⟨by simp [curG,Qu],by simp [curG,Qu]⟩,by simp [curG,Qu],qe⟩
  have j : ∀ z,secG b z = shrS d (secG f z):=fun z=>by
    rw [e3 z];by_cases hz : z < -1000000
    · rw [qy hz,q2n r hz,qh1];rfl
    · rw [Q3 hz,qno]
  have o : ∀ z,(secG f z).length≤160:=fun z=>by
    rcases qaf (x:=z) f with e | ⟨g,a,_,_,e⟩
    · rw [e];simp
    · rw [e];have:=qjs a;rw [← hp] at this;omega
  have m : CanB (K3 putB b):=⟨b,rfl,w,fun g a=>by
    have h1:=q79 w g a g.lo (Int.le_refl _) (w.1 g a).1;rw [← h1,j]
    exact qh0 (o _)⟩
  refine ⟨K3 putB b,m,fun z=>by rw [q3s w,j,v],?_⟩;have key:=qkt (d:=d) q6 hl hp l af f [] (Qu : Mg qd qk) rfl (by simp [Qu,Mg.flat]);have s : loop (q3a p d) (0,[],0,0,[]) = some (if ∃ g∈f,400 < (shrS d g.sec).length then .inr ([],4) else .inl ((Qy putB Qu (hsteps d f)).sec,((Qy putB Qu (hsteps d f)).done.length : Int),(Qy putB Qu (hsteps d f)).hi,(Qy putB (Qu : Mg qd qk) (hsteps d f)).flat putB)):=key;unfold q39;rw [qc3,hc];simp only [qj,bne_self_eq_false,qx];rw [Qe (by omega : ¬ d < 1),Qe (by omega : ¬ d > 1000000)];simp only [qx,qj,s];by_cases h4 : ∃ g∈f,400 < (shrS d g.sec).length
  · rw [qy h4];obtain ⟨g,a,h5⟩:=h4
    have h6 : (shrS d g.sec).length≤(K3 putB b).length:=by
      have e:=j g.lo;rw [q79 l g a g.lo (Int.le_refl _) (l.1 g a).1] at e;rw [← e];rcases qaf (x:=g.lo) b with e' | ⟨k,hk,_,_,e'⟩
      · rw [e'];simp
      · rw [e'];exact qjs hk
    rw [qy q6];rfl
  · rw [Q3 h4];simp only [qj,e1];by_cases h7 : 400 < (K3 putB b).length
    · rw [qy h7,Qc (by omega : (((K3 putB b).length : Nat) : Int) > 400)];rfl
    · rw [Q3 h7,Qe (by omega : ¬ (((K3 putB b).length : Nat) : Int) > 400)];rfl
end Go.Sh
namespace Go.Sh
open Go Go.Am
end Go.Sh
namespace Go.Sh
open Go Go.Am
noncomputable def footprint (s : List qk) : List qd × Int:=if Yb s≠0 then ([],Yb s) else mkR (s.map Zl)
theorem qxz (s : List qk) : qa6 s = some (footprint s):=by
  unfold qa6 footprint;rw [qc3,qj];by_cases h : ¬ Yb s = 0
  · have : (Yb s != 0) = true:=by simpa using h
    rw [qy h,this,qz]
  replace h:=Classical.not_not.1 h;have c:=(q2a.1 h).1;rw [Q3 (by simp [h]),h,show ((0 : Int) != 0) = false from rfl,qx]
  have:=Zu s Zl [] (fun o=>o) (q6y s) (fun k a o b=>by
    simp only [q6y,dlt a,qz,Qq a,qj,w64s a q6];rw [Ke (by simp at b ⊢;omega)]
    rfl) (fun o=>by simp only [q6y,dnl,qx])
  rw [List.nil_append] at this;rw [this];simp only [qj,qn6]
def colS (s : List qk) (x y : Int) : List qp:=s.flatMap fun b=>if decide (b.Lo.X≤x∧x < b.Hi.X) && decide (b.Lo.Y≤y∧y < b.Hi.Y) then [{Lo:=b.Lo.Z,Hi:=b.Hi.Z}] else []
theorem qcv (s : List qk) (x y : Int) : (colS s x y).length≤s.length:=by
  unfold colS
  induction s with
  | nil=>simp
  | cons r l ih=>
    simp only [List.flatMap_cons,List.length_append,List.length_cons];have : (if (decide (r.Lo.X≤x∧x < r.Hi.X) && decide (r.Lo.Y≤y∧y < r.Hi.Y)) = true then [({Lo:=r.Lo.Z,Hi:=r.Hi.Z} : qp)] else []).length≤1:=by split <;> simp
    omega
theorem qsk {s : List qk} {x y z : Int} : has (colS s x y) z↔hasB s x y z:=by
  unfold colS;constructor
  · rintro ⟨t,f,c,a⟩;rw [List.mem_flatMap] at f;obtain ⟨b,hb,h⟩:=f;split at h
    · rename_i d;simp only [Bool.and_eq_true,decide_eq_true_eq] at d;obtain rfl:=List.mem_singleton.1 h;exact ⟨b,hb,d.1,d.2,c,a⟩
    · cases h
  · rintro ⟨b,hb,c,a,j,g⟩;refine ⟨{Lo:=b.Lo.Z,Hi:=b.Hi.Z},?_,j,g⟩;rw [List.mem_flatMap];exact ⟨b,hb,by rw [qy (by simp [c,a])];simp⟩
theorem qr2 {s : List qk} (h : ∀ b∈s,vB b) (x y : Int) : ∀ t∈colS s x y,vld t:=by
  intro t c;unfold colS at c;rw [List.mem_flatMap] at c;obtain ⟨b,hb,a⟩:=c;split at a
  · obtain rfl:=List.mem_singleton.1 a;have:=h b hb;unfold vB at this;unfold vld;simp only;omega
  · cases a
noncomputable def column (s : List qk) (x y : Int) : List qp × Int:=if Yb s≠0 then ([],Yb s) else (q2f 2 (colS s x y) [],0)
theorem qxx (s : List qk) (x y : Int) : qa5 s x y = some (column s x y):=by
  unfold qa5 column;rw [qc3,qj];by_cases h : ¬ Yb s = 0
  · have : (Yb s != 0) = true:=by simpa using h
    rw [qy h,this,qz]
  replace h:=Classical.not_not.1 h;obtain ⟨p,f,_⟩:=q2a.1 h;rw [Q3 (by simp [h]),h,show ((0 : Int) != 0) = false from rfl,qx]
  have:=Yu s q6 (fun b=>if decide (b.Lo.X≤x∧x < b.Hi.X) && decide (b.Lo.Y≤y∧y < b.Hi.Y) then [({Lo:=b.Lo.Z,Hi:=b.Hi.Z} : qp)] else []) [] (fun o=>o) (q6x s x y) (fun k a o d=>by
    have n : o.length≤k:=by rw [d,List.nil_append];have:=qcv (s.take k) x y;rw [List.length_take,Nat.min_eq_left q6] at this;exact this
    simp only [q6x,dlt a,qz,Qq a,qj,w64s a q6];by_cases l : s[k].Lo.X≤x <;> by_cases g : x < s[k].Hi.X <;> by_cases m : s[k].Lo.Y≤y <;> by_cases j : y < s[k].Hi.Y <;> simp [l,g,m,j]
    all_goals (rw [Ke (by simp;omega)];rfl)) (fun o=>by simp only [q6x,dnl,qx])
  rw [List.nil_append] at this
  have c : q3o (colS s x y) = some (q2f 2 (colS s x y) [],0):=by
    have:=qcv s x y;rw [qle];unfold qdh;rw [Q3 q6,qy (qr2 f x y)]
  rw [this];simp only [qj];rw [show s.flatMap (fun b=>if decide (b.Lo.X≤x∧x < b.Hi.X) && decide (b.Lo.Y≤y∧y < b.Hi.Y) then [({Lo:=b.Lo.Z,Hi:=b.Hi.Z} : qp)] else []) = colS s x y from rfl,c];rfl
end Go.Sh
namespace Go.Sh
open Go Go.Am
end Go.Sh
namespace Go.Sh
open Go Go.Am
end Go.Sh
