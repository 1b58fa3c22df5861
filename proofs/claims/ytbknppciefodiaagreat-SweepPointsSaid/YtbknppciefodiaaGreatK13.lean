/- Sw5 Sw6 Sw7 Sw8 Sw9 -/
import Derived.Test.YtbknppciefodiaaGreatK12
namespace Go.Sh
open Go Go.Am
theorem qsm {a c p : Q3} (d : InV a (-1000000)) (b : InV c (-1000000)) (h : onL a c p) : InV p (-1000000):=by
  unfold InV at d b ⊢;unfold onL at h;omega
section
variable {α β : Type}
noncomputable def fstE (g : α→β × Int) : List α→Int
  | []=>0
  | a::r=>if (g a).2≠0 then (g a).2 else fstE g r
theorem qfk {g : α→β × Int} : ∀ {l : List α},fstE g l = 0↔∀ a∈l,(g a).2 = 0
  | []=>by simp [fstE]
  | a::r=>by
    rw [fstE]
    by_cases h : (g a).2 = 0
    · rw [qp (by simp [h]),qfk];simp [h]
    · rw [qr h];simp [h]
theorem qkb {g : α→β × Int} {P : Int→Prop} : ∀ {l : List α},(∀ a∈l,P (g a).2)→P 0→P (fstE g l)
  | [],_,h0=>h0
  | a::r,h,h0=>by
    rw [fstE]
    split
    · exact h a qe
    · exact qkb (fun b hb=>h b (by simp [hb])) h0
theorem qs8 {src : List α} {g : α→β × Int} {f : Int × List β→Option ((Int × List β) ⊕ (List β ⊕ (List β × Int)))}
    (hs : ∀ k (j : k < src.length) (o : List β),o.length = k→f ((k : Int),o) = some (if (g src[k]).2≠0 then .inr (.inr ([],(g src[k]).2)) else .inl (((k + 1 : Nat) : Int),o ++ [(g src[k]).1])))
    (hd : ∀ o,f ((src.length : Int),o) = some (.inr (.inl o))) : loop f (0,[]) = some (if fstE g src = 0 then .inl (src.map fun a=>(g a).1) else .inr ([],fstE g src)):=by
  have key : ∀ (r pre : List α),src = pre ++ r→loop f ((pre.length : Int),pre.map fun a=>(g a).1) = some (if fstE g r = 0 then .inl (src.map fun a=>(g a).1) else .inr ([],fstE g r)):=by
    intro r
    induction r with
    | nil=>
      intro pre h;rw [List.append_nil] at h;subst h;rw [Kh (hd _)];rfl
    | cons a r ih=>
      intro pre h;have j : pre.length < src.length:=by rw [h];simp
      have l : src[pre.length] = a:=by simp [h]
      have c:=hs pre.length j (pre.map fun a=>(g a).1) qe;rw [l] at c;by_cases b : (g a).2 = 0
      · rw [qp (by simp [b])] at c;have d : fstE g (a::r) = fstE g r:=qp (by simp [b]);rw [Y3 c,d];have:=ih (pre ++ [a]) (by rw [h];simp);simpa using this
      · rw [qr b] at c;have d : fstE g (a::r) = (g a).2:=qr b;rw [Kh c,d,qp b]
  exact key src [] rfl
end
noncomputable def Zz (bs : List (List qg)) (l : K1) : List qg:=(idx bs (min l.Depth ((bs.length : Int) - 1))).getD []
noncomputable def barB (bs : List (List qg)) (l : K1) : List qg × Int:=barS l (Zz bs l)
noncomputable def Kg (t : Qv) (bs : List (List qg)) : List (List qg) × Int:=
  if chkS t bs≠0 then ([],chkS t bs) else if fstE (barB bs) t.Lines = 0 then (t.Lines.map fun l=>(barB bs l).1,0) else ([],fstE (barB bs) t.Lines)
structure Zi (t : Qv) (bs : List (List qg)) : Prop where
  tok : TOk t
  few : bs.length≤20
  brush : ∀ b∈bs,Qz b = 0
  some' : t.Lines≠[]→bs≠[]
  depth : ∀ l∈t.Lines,0≤l.Depth
theorem q8m {t : Qv} {bs : List (List qg)} : chkS t bs = 0↔Zi t bs:=by
  unfold chkS;constructor
  · intro h;split at h
    · cases h
    rename_i c;split at h
    · cases h
    rename_i k;split at h
    · rename_i b;exact absurd h b
    rename_i b;split at h
    · cases h
    rename_i d;split at h
    · cases h
    rename_i f;refine ⟨Classical.not_not.1 c,q6,qie (Classical.not_not.1 b),fun a j=>d ⟨List.length_pos_iff.2 a,by simp [j]⟩,fun l a=>?_⟩;exact Int.not_lt.1 fun g=>f ⟨l,a,g⟩
  · rintro ⟨c,k,b,d,f⟩;rw [qp (not_not_intro c),qp q6,qp (not_not_intro (qej b)),qp (fun h=>d (List.length_pos_iff.1 h.1) (List.length_eq_zero_iff.1 h.2)),qp (fun ⟨l,a,g⟩=>by have:=f l a;omega)]
theorem qeo {t : Qv} {bs : List (List qg)} (h : Zi t bs) {l : K1} (b : l∈t.Lines) : idx bs (min l.Depth (w64 ((bs.length : Int) - 1))) = some (Zz bs l)∧Zz bs l∈bs:=by
  have c:=h.few;have f:=h.depth l b;have d : bs.length≠0:=fun e=>h.some' (List.ne_nil_of_mem b) (List.length_eq_zero_iff.1 e);rw [Qg q6];have a : (min l.Depth ((bs.length : Int) - 1)).toNat < bs.length:=by omega
  have e:=J4 (xs:=bs) (i:=min l.Depth ((bs.length : Int) - 1)) (k:=(min l.Depth ((bs.length : Int) - 1)).toNat) q6 a;unfold Zz;rw [e];exact ⟨rfl,Kq a⟩
theorem qij (t : Qv) (bs : List (List qg)) (j : t.Lines.length≤1000000) (n : t.Marks.length≤1000000) (q : bs.length≤1000000) : q81 t bs = some (Kg t bs):=by
  unfold q81 Kg;rw [qxo t bs j n q];simp only [qj];by_cases b : chkS t bs = 0
  · have ok:=q8m.1 b;rw [qp (not_not_intro b),b,show ((0 : Int) != 0) = false from rfl,qy]
    rw [qs8 (src:=t.Lines) (g:=barB bs) (f:=q82 t bs) (fun k c o r=>by
      have l:=Kq c;obtain ⟨m,p⟩:=qeo ok l;obtain ⟨d,h,_⟩:=Yh.1 (ok.brush _ p);simp only [q82,dlt c,Q1,Qt c,qj,m,qom (ok.tok.2.1 _ l) d h,w64s c j];have e : barS t.Lines[k] (Zz bs t.Lines[k]) = barB bs t.Lines[k]:=rfl;rw [e];by_cases a : (barB bs t.Lines[k]).2 = 0
      · rw [qp (by simp [a]),a,show ((0 : Int) != 0) = false from rfl,qy,Y7 (by simp;omega)];rfl
      · rw [qr a,show ((barB bs t.Lines[k]).2 != 0) = true by simpa using a]
        rfl) (fun o=>by simp only [q82,dnl,qy])]
    by_cases a : fstE (barB bs) t.Lines = 0
    · rw [qr a,qr a];rfl
    · rw [qp a,qp a];rfl
  · rw [qr b,show (chkS t bs != 0) = true by simpa using b];rfl
structure Small (t : Qv) (bs : List (List qg)) : Prop where
  lines : t.Lines.length≤12
  marks : t.Marks.length≤50
  many : bs.length≤25
  near : ∀ l∈t.Lines,(InV l.From (-2000000)∧InV l.To (-2000000))∧nL l.From l.To≤90
  few : ∀ b∈bs,b.length≤5
end Go.Sh
namespace Go.Sh
open Go Go.Am
theorem qih {l : K1} {b : List qg} (h : (barS l b).2 = 0) (k : b.length≤400) : (∀ x∈b,vB (swp l.From l.To x))∧(barS l b).1 = mrgB 2 (b.map (swp l.From l.To)) []∧Qz (barS l b).1 = 0∧∀ x y z,hasB (barS l b).1 x y z↔hasB (b.map (swp l.From l.To)) x y z:=by
  unfold barS at h ⊢;by_cases a : ∀ x∈b,vB (swp l.From l.To x)
  · rw [qr a] at h ⊢;have d : ∀ y∈b.map (swp l.From l.To),vB y:=by intro y j;obtain ⟨x,g,rfl⟩:=List.mem_map.1 j;exact a x g
    unfold mkB at h ⊢;rw [qp (by simp;omega),qr d] at h ⊢;by_cases c : 400 < (mrgB 2 (b.map (swp l.From l.To)) []).length
    · rw [qr c] at h;simp at h
    · rw [qp c];have f:=q96 2 (p:=b.map (swp l.From l.To)) (q:=[]) (by simp;omega);exact ⟨a,rfl,Yh.2 ⟨by simpa using c,f.vB (InB.mrg (by simp;omega) (qhn d) .nil),f⟩,fun x y z=>qkj (by simp;omega) x y z⟩
  · rw [qp a] at h;simp at h
theorem qpo (l : K1) (b : List qg) (h : b.length≤400) : (barS l b).2 = 0∨((barS l b).1 = []∧((barS l b).2 = 4∨(barS l b).2 = 16)):=by
  unfold barS;by_cases a : ∀ x∈b,vB (swp l.From l.To x)
  · have f : ∀ y∈b.map (swp l.From l.To),vB y:=by intro y g;obtain ⟨x,d,rfl⟩:=List.mem_map.1 g;exact a x d
    rw [qr a];unfold mkB;rw [qp (by simp;omega),qr f];by_cases c : 400 < (mrgB 2 (b.map (swp l.From l.To)) []).length
    · rw [qr c];exact .inr ⟨rfl,.inl rfl⟩
    · rw [qp c];exact .inl rfl
  · rw [qp a];exact .inr ⟨rfl,.inr rfl⟩
theorem qep {t : Qv} {bs : List (List qg)} (h : Zi t bs) {l : K1} (a : l∈t.Lines) : Qz (Zz bs l) = 0:=h.brush _ (qeo h a).2
theorem qby {t : Qv} {bs : List (List qg)} (h : (Kg t bs).2 = 0) : Zi t bs∧(∀ l∈t.Lines,(barB bs l).2 = 0)∧(Kg t bs).1 = t.Lines.map fun l=>(barB bs l).1:=by
  unfold Kg at h ⊢;by_cases a : chkS t bs = 0
  · rw [qp (not_not_intro a)] at h ⊢;by_cases b : fstE (barB bs) t.Lines = 0
    · rw [qr b];exact ⟨q8m.1 a,qfk.1 b,rfl⟩
    · rw [qp b] at h;exact absurd h b
  · rw [qr a] at h;exact absurd h a
theorem qbx {t : Qv} {bs : List (List qg)} : ∀ b∈(Kg t bs).1,Qz b = 0:=by
  by_cases h : (Kg t bs).2 = 0
  · obtain ⟨f,j,g⟩:=qby h;rw [g];intro b hb;obtain ⟨l,a,rfl⟩:=List.mem_map.1 hb;exact (qih (j l a) (Yh.1 (qep f a)).1).2.2.1
  · have : (Kg t bs).1 = []:=by
      unfold Kg at h ⊢;by_cases c : chkS t bs = 0
      · rw [qp (not_not_intro c)] at h ⊢;by_cases d : fstE (barB bs) t.Lines = 0
        · rw [qr d] at h;exact absurd rfl h
        · rw [qp d]
      · rw [qr c]
    rw [this];intro b hb;cases hb
def q1q (l : K1) : Prop:=(InV l.From (-2000000)∧InV l.To (-2000000))∧(max (max (max (max (max (l.From.X - l.To.X) (l.To.X - l.From.X)) (l.From.Y - l.To.Y)) (l.To.Y - l.From.Y)) (l.From.Z - l.To.Z)) (l.To.Z - l.From.Z))≤30
instance (l : K1) : Decidable (q1q l):=by unfold q1q;infer_instance
theorem qse (t : Qv) (bs : List (List qg)) : q66 t bs = some true∨(q66 t bs = some false∧Small t bs):=by
  unfold q66;by_cases n : 12 < t.Lines.length
  · rw [Q8 (by omega : (t.Lines.length : Int) > 12)];exact .inl rfl
  by_cases o : 50 < t.Marks.length
  · rw [Q7 (by omega : ¬ (t.Lines.length : Int) > 12),Q8 (by omega : (t.Marks.length : Int) > 50)];exact .inl rfl
  by_cases p : 25 < bs.length
  · rw [Q7 (by omega : ¬ (t.Lines.length : Int) > 12),Q7 (by omega : ¬ (t.Marks.length : Int) > 50),Q8 (by omega : (bs.length : Int) > 25)];exact .inl rfl
  rw [Q7 (by omega : ¬ (t.Lines.length : Int) > 12),Q7 (by omega : ¬ (t.Marks.length : Int) > 50),Q7 (by omega : ¬ (bs.length : Int) > 25)];simp only [qy,qj]
  rcases Z2 t.Lines (fun l=>!decide (q1q l)) (fun k _=>true) () (q67 t) (fun k a=>by
    simp only [q67,dlt a,Q1,Qt a,qj,w64s a (show t.Lines.length≤1000000 by omega),q8f];generalize t.Lines[k] = l;by_cases c : InV l.From (-2000000)
    · by_cases d : InV l.To (-2000000)
      · have m:=c;have j:=d;unfold InV at m j;rw [Qg q6,Qg q6,Qg q6,Qg q6,Qg q6,Qg q6]
        have e : decide (max (max (max (max (max (l.From.X - l.To.X) (l.To.X - l.From.X)) (l.From.Y - l.To.Y)) (l.To.Y - l.From.Y)) (l.From.Z - l.To.Z)) (l.To.Z - l.From.Z) > 30) = !decide (q1q l):=by
          rw [Bool.eq_iff_iff];simp only [decide_eq_true_eq,Bool.not_eq_true',decide_eq_false_iff_not,q1q,c,d,true_and,and_true];omega
        rw [e,Q8 c,Q8 d];cases decide (q1q l) <;> rfl
      · have e : decide (q1q l) = false:=Q7 fun h=>d h.1.2;rw [e,Q8 c,Q7 d];rfl
    · have e : decide (q1q l) = false:=Q7 fun h=>c h.1.1
      rw [e,Q7 c];rfl) (by simp only [q67,dnl,qy]) with ⟨a1,a2⟩ | ⟨k,a,hc,_,a2⟩
  rotate_left
  · rw [a2];exact .inl rfl
  rw [a2];simp only [qj]
  rcases Z2 bs (fun b=>decide (5 < b.length)) (fun k _=>true) () (q68 bs) (fun k a=>by
    simp only [q68,dlt a,Q1,Qt a,qj,w64s a (show bs.length≤1000000 by omega)];by_cases h : 5 < bs[k].length
    · rw [Q8 (by omega : (bs[k].length : Int) > 5)];simp [h]
    · rw [Q7 (by omega : ¬ (bs[k].length : Int) > 5)];simp [h]) (by simp only [q68,dnl,qy]) with ⟨b1,b2⟩ | ⟨k,a,hc,_,b2⟩
  rotate_left
  · rw [b2];exact .inl rfl
  rw [b2];refine .inr ⟨rfl,q6,q6,q6,fun l g=>?_,fun b hb=>by simpa using b1 b hb⟩;have f : q1q l:=by simpa using a1 l g
  refine ⟨f.1,?_⟩;have:=q97 l.From l.To;have:=f.2;omega
def oneT (l : K1) : Qv:=({Lines:=[l],Marks:=[],End:=({Frame:=({Turn:=0,At:=({X:=0,Y:=0,Z:=0} : Q3)} : Yg),Drawn:=0} : Jw)} : Qv)
noncomputable def barT (l : K1) (b : List qg) : List qg × Int:=if ¬ TOk (oneT l) then ([],8) else if Qz b≠0 then ([],Qz b) else barS l b
theorem qxk (l : K1) (b : List qg) : qbb l b = some (barT l b):=by
  obtain ⟨n,f⟩:=qou (oneT l) (by simp [oneT]) (by simp [oneT]);unfold qbb barT;rw [show q4x ({Lines:=[l],Marks:=[],End:=({Frame:=({Turn:=0,At:=({X:=0,Y:=0,Z:=0} : Q3)} : Yg),Drawn:=0} : Jw)} : Qv) = _ from f];simp only [qj];by_cases a : TOk (oneT l)
  · rw [qr a,qp (not_not_intro a),show ((0 : Int) != 0) = false from rfl,qy];rw [qdt,qj];by_cases c : Qz b = 0
    · have g : LOk l:=a.2.1 l (by simp [oneT]);obtain ⟨hb,d,_⟩:=Yh.1 c;rw [c,qp qx,show ((0 : Int) != 0) = false from rfl,qy,qom g hb d];rfl
    · rw [qr c,show (Qz b != 0) = true by simpa using c];rfl
  · rw [qp a,qr a];rfl
end Go.Sh
namespace Go.Sh
open Go Go.Am
noncomputable def Ya : List qg→List (List qg)→List qg × Int
  | o,[]=>(o,0)
  | o,b::r=>if (jB 2 o b).2≠0 then ([],(jB 2 o b).2) else Ya (jB 2 o b).1 r
theorem qku {p q : List qg} (hp : Qz p = 0) (a : Qz q = 0) : (jB 2 p q = ([],4))∨((jB 2 p q).2 = 0∧Qz (jB 2 p q).1 = 0∧∀ x y z,hasB (jB 2 p q).1 x y z↔hasB p x y z∨hasB q x y z):=by
  rcases qsu 2 hp a with h | ⟨b,d,c⟩
  · exact .inl h
  · rw [b];exact .inr ⟨rfl,d,fun x y z=>by rw [c,q3n]⟩
theorem qcl : ∀ {l : List (List qg)} {o : List qg},Qz o = 0→(∀ b∈l,Qz b = 0)→Ya o l = ([],4)∨((Ya o l).2 = 0∧Qz (Ya o l).1 = 0∧∀ x y z,hasB (Ya o l).1 x y z↔hasB o x y z∨∃ b∈l,hasB b x y z)
  | [],o,ho,_=>.inr ⟨rfl,ho,fun x y z=>by simp [Ya]⟩
  | b::r,o,ho,hb=>by
    rcases qku ho (hb b qe) with h | ⟨f,j,n⟩
    · left;unfold Ya;rw [h];rfl
    · have e : Ya o (b::r) = Ya (jB 2 o b).1 r:=by rw [Ya,qp (by simp [f])]
      rw [e]
      rcases qcl (l:=r) j (fun c a=>hb c (by simp [a])) with g | ⟨m,k,d⟩
      · exact .inl g
      · refine .inr ⟨m,k,fun x y z=>?_⟩
        rw [d,n]
        constructor
        · rintro ((h | h) | ⟨c,a,h⟩)
          · exact .inl h
          · exact .inr ⟨b,qe,h⟩
          · exact .inr ⟨c,by simp [a],h⟩
        · rintro (h | ⟨c,a,h⟩)
          · exact .inl (.inl h)
          · rcases List.mem_cons.1 a with rfl | a
            · exact .inl (.inr h)
            · exact .inr ⟨c,a,h⟩
theorem qsx {src : List (List qg)} (d : ∀ b∈src,Qz b = 0) {f : List qg × Int→Option ((List qg × Int) ⊕ ((List qg) ⊕ (List qg × Int)))}
    (hs : ∀ k (m : k < src.length) (o : List qg),Qz o = 0→f (o,(k : Int)) = some (if (jB 2 o src[k]).2≠0 then .inr (.inr ([],(jB 2 o src[k]).2)) else .inl ((jB 2 o src[k]).1,((k + 1 : Nat) : Int))))
    (hd : ∀ o,f (o,(src.length : Int)) = some (.inr (.inl o))) : loop f ([],0) = some (if (Ya [] src).2 = 0 then .inl (Ya [] src).1 else .inr ([],(Ya [] src).2)):=by
  have key : ∀ (r pre : List (List qg)) (o : List qg),src = pre ++ r→Qz o = 0→loop f (o,(pre.length : Int)) = some (if (Ya o r).2 = 0 then .inl (Ya o r).1 else .inr ([],(Ya o r).2)):=by
    intro r
    induction r with
    | nil=>
      intro pre o h _;rw [List.append_nil] at h;subst h;rw [Kh (hd _)];rfl
    | cons a r ih=>
      intro pre o h j;have m : pre.length < src.length:=by rw [h];simp
      have q : src[pre.length] = a:=by simp [h]
      have c:=hs pre.length m o j;rw [q] at c;have g : Qz a = 0:=d a (by rw [h];simp);rcases qku j g with l | ⟨n,p,_⟩
      · rw [l,qr qx] at c;have e : Ya o (a::r) = ([],4):=by unfold Ya;rw [l];rfl
        rw [Kh c,e];rfl
      · rw [qp (by simp [n])] at c;have e : Ya o (a::r) = Ya (jB 2 o a).1 r:=by rw [Ya,qp (by simp [n])]
        rw [Y3 c,e];have:=ih (pre ++ [a]) (jB 2 o a).1 (by rw [h];simp) p;simpa using this
  exact key src [] [] rfl q8k
noncomputable def Zn (t : Qv) (bs : List (List qg)) : List qg × Int:=if (Kg t bs).2≠0 then ([],(Kg t bs).2) else Ya [] (Kg t bs).1
theorem qpq (t : Qv) (bs : List (List qg)) : (Kg t bs).1.length≤t.Lines.length:=by
  by_cases a : (Kg t bs).2 = 0
  · rw [(qby a).2.2];simp
  · have : (Kg t bs).1 = []:=by
      unfold Kg at a ⊢;split
      · rfl
      · rename_i b;rw [qp b] at a;split at a
        · exact absurd rfl a
        · rename_i c;rw [qp c]
    rw [this];simp
theorem q13j {R : List (List qg) × Int} (c : R.1.length≤1000000) (k : Nat) (b : k < R.1.length) (o : List qg) : q4u R (o,(k : Int)) = some (if (jB 2 o R.1[k]).2≠0 then .inr (.inr ([],(jB 2 o R.1[k]).2)) else .inl ((jB 2 o R.1[k]).1,((k + 1 : Nat) : Int))):=by
  simp only [q4u,dlt b,Q1,Qt b,qj,q125,w64s b c];generalize jB 2 o R.1[k] = q;by_cases a : q.2 = 0
  · rw [qp (not_not_intro a),a];rfl
  · rw [qr a,show (q.2 != 0) = true by simpa using a,Q1]
theorem qoo (t : Qv) (bs : List (List qg)) (d : t.Lines.length≤1000000) (j : t.Marks.length≤1000000) (n : bs.length≤1000000) : q4t t bs = some (Zn t bs):=by
  unfold q4t Zn;have h:=qpq t bs;have c:=qbx (t:=t) (bs:=bs);rw [qij t bs d j n,qj];generalize Kg t bs = R at h c ⊢;by_cases a : R.2 = 0
  · rw [qp (not_not_intro a),a,show ((0 : Int) != 0) = false from rfl,qy];rw [qsx c (f:=q4u R) (fun k m o _=>q13j (Nat.le_trans h d) k m o) (fun o=>by simp only [q4u,dnl,qy])];by_cases b : (Ya [] R.1).2 = 0
    · rw [qr b];simp only [qj];exact congrArg some (Prod.ext rfl b.symm)
    · rw [qp b];rcases qcl q8k c with g | ⟨l,_⟩
      · rw [g];rfl
      · exact absurd l b
  · rw [qr a,show (R.2 != 0) = true by simpa using a,Q1]
def q2b (p q : K1) : Prop:=p.From≠q.From∧p.From≠q.To∧p.To≠q.From∧p.To≠q.To
instance (p q : K1) : Decidable (q2b p q):=by unfold q2b;infer_instance
theorem q141 (p q : Q3) : ((p.X == q.X) && ((p.Y == q.Y) && ((p.Z == q.Z) && true))) = decide (p = q):=by
  rw [Bool.eq_iff_iff];simp [qbn]
theorem qpg (p q : K1) : qbc p q = some (decide (q2b p q)):=by
  unfold qbc q2b;simp only [q141];by_cases c : p.From = q.From <;> by_cases b : p.From = q.To <;> by_cases a : p.To = q.From <;> by_cases d : p.To = q.To <;> simp [c,b,a,d]
def qco (a b : List qg) : Prop:=∃ x y z,hasB a x y z∧hasB b x y z
theorem qo0 (l : List qg) (d : l.length≤1000000) (p : qg→Option Bool) (c : qg→Bool) (h : ∀ v∈l,p v = some (c v)) : Un l p = some (l.any c):=by
  unfold Un q6s
  rcases Z2 l c (fun k _=>(k : Int)) () (Jk l p) (fun k a=>by
    simp only [Jk,dlt a,Q1,Qt a,qj,w64s a d,h _ (Kq a)]
    cases c l[k] <;> simp) (by simp only [Jk,dnl,qy]) with ⟨h1,h2⟩ | ⟨k,a,hc,_,h2⟩
  · rw [h2];have : l.any c = false:=by rw [List.any_eq_false];exact fun v b=>by rw [h1 v b];simp
    rw [this];rfl
  · rw [h2];have : l.any c = true:=List.any_eq_true.2 ⟨_,Kq a,hc⟩;simp only [qj];rw [this,Q8 q6]
def ovB (p q : qg) : Prop:=((q.Lo.X < p.Hi.X∧p.Lo.X < q.Hi.X)∧q.Lo.Y < p.Hi.Y∧p.Lo.Y < q.Hi.Y)∧q.Lo.Z < p.Hi.Z∧p.Lo.Z < q.Hi.Z
instance (p q : qg) : Decidable (ovB p q):=by unfold ovB;infer_instance
theorem qvh (p q : qg) : q87 p q = some (decide (ovB p q)):=by
  unfold q87 ovB;by_cases a : q.Lo.X < p.Hi.X <;> by_cases f : p.Lo.X < q.Hi.X <;> by_cases d : q.Lo.Y < p.Hi.Y <;> by_cases b : p.Lo.Y < q.Hi.Y <;> by_cases c : q.Lo.Z < p.Hi.Z <;> by_cases g : p.Lo.Z < q.Hi.Z <;> simp [a,f,d,b,c,g]
theorem qm0 {p q : qg} (hp : ltB p) (a : ltB q) : ovB p q↔∃ x y z,inB p x y z∧inB q x y z:=by
  obtain ⟨n,p2,p3⟩:=hp;obtain ⟨b,m,h⟩:=a;constructor
  · rintro ⟨⟨⟨c,f⟩,r,d⟩,o,k⟩;exact ⟨max p.Lo.X q.Lo.X,max p.Lo.Y q.Lo.Y,max p.Lo.Z q.Lo.Z,⟨q6,q6,q6⟩,⟨q6,q6,q6⟩⟩
  · rintro ⟨x,y,z,⟨l,j,s⟩,⟨b1,g,t⟩⟩;exact ⟨⟨⟨q6,q6⟩,q6,q6⟩,q6,q6⟩
open Classical in
theorem qtm {a b : List qg} (n : Qz a = 0) (hb : Qz b = 0) : qbg a b = some (decide (qco a b)):=by
  obtain ⟨la,m,_⟩:=Yh.1 n;obtain ⟨o,l,_⟩:=Yh.1 hb;unfold qbg
  rw [qo0 a q6 _ (fun x=>b.any fun y=>decide (ovB y x)) (fun x c=>by
    unfold qbh;rw [qo0 b q6 _ (fun y=>decide (ovB y x)) (fun y _=>qvh y x)]
    rfl)]
  simp only [qj];congr 1;rw [Bool.eq_iff_iff];simp only [List.any_eq_true,decide_eq_true_eq];constructor
  · rintro ⟨x,c,y,d,h⟩;obtain ⟨i,j,k,f,g⟩:=(qm0 (l y d).1 (m x c).1).1 h;exact ⟨i,j,k,⟨x,c,g⟩,⟨y,d,f⟩⟩
  · rintro ⟨i,j,k,⟨x,c,g⟩,⟨y,d,f⟩⟩;exact ⟨x,c,y,d,(qm0 (l y d).1 (m x c).1).2 ⟨i,j,k,f,g⟩⟩
theorem qli {α β : Type} [DecidableEq α] (z v : β) (k b : α) : ∀ es : List (α × β),Z9 z b (Ul k v es) = if b = k then v else Z9 z b es
  | []=>by simp [Z9,Ul]
  | (a,w)::r=>by
    unfold Ul
    by_cases h : k = a
    · subst h
      rw [qr rfl]
      by_cases c : b = k <;> simp [Z9,c]
    · rw [qp h]
      have d:=qli z v k b r
      by_cases c : b = a
      · subst c
        simp [Z9,Ne.symm h]
      · simp [Z9,c,d]
section
variable (t : Qv) (L : List (List qg))
def cl (i k : Nat) : Prop:=i < k∧∃ p q a b,t.Lines[i]? = some p∧t.Lines[k]? = some q∧L[i]? = some a∧L[k]? = some b∧q2b p q∧qco a b
open Classical in
noncomputable def row (i m : Nat) : List (Int × Int):=((List.range m).filter fun k=>decide (cl t L i k)).map fun (k : Nat)=>((i : Int),(k : Int))
noncomputable def pairs (n m : Nat) : List (Int × Int):=(List.range m).flatMap fun i=>row t L i n
end
open Classical in
theorem qgz (t : Qv) (L : List (List qg)) (i m : Nat) : row t L i (m + 1) = row t L i m ++ if cl t L i m then [((i : Int),(m : Int))] else []:=by
  unfold row;rw [List.range_succ,List.filter_append,List.map_append];by_cases h : cl t L i m <;> simp [h]
theorem qgx (t : Qv) (L : List (List qg)) (i : Nat) : ∀ m,m≤i + 1→row t L i m = []
  | 0,_=>rfl
  | m + 1,h=>by
    rw [qgz,qgx t L i m q6,qp (fun a=>by have:=a.1;omega)];rfl
theorem qcw (t : Qv) (L : List (List qg)) (n m : Nat) : pairs t L n (m + 1) = pairs t L n m ++ row t L m n:=by
  unfold pairs;rw [List.range_succ,List.flatMap_append];simp
theorem qn2 (t : Qv) (L : List (List qg)) (i m : Nat) : (row t L i m).length≤m:=by
  unfold row;rw [List.length_map];exact Nat.le_trans (List.length_filter_le _ _) qe
theorem qm2 (t : Qv) (L : List (List qg)) (n : Nat) : ∀ m,(pairs t L n m).length≤m * n
  | 0=>by simp [pairs]
  | m + 1=>by
    rw [qcw,List.length_append,Nat.succ_mul]
    have:=qm2 t L n m
    have:=qn2 t L m n
    omega
section
variable {t : Qv} {bs : List (List qg)}
noncomputable def qc1 (t : Qv) (bs : List (List qg)) : List (Int × Int) × Int:=if (Kg t bs).2≠0 then ([],(Kg t bs).2) else (pairs t (Kg t bs).1 t.Lines.length t.Lines.length,0)
open Classical in
theorem qqv (h1 : t.Lines.length≤2000) (h2 : t.Marks.length≤1000000) (h3 : bs.length≤1000000) : q83 t bs = some (qc1 t bs):=by
  unfold q83 qc1;rw [qij t bs q6 h2 h3,qj];by_cases y : (Kg t bs).2 = 0
  rotate_left
  · rw [qr y,show ((Kg t bs).2 != 0) = true by simpa using y];rfl
  rw [qp (by simp [y]),y,show ((0 : Int) != 0) = false from rfl,qy];have r : (Kg t bs).1.length = t.Lines.length:=by rw [(qby y).2.2];simp
  have l:=qbx (t:=t) (bs:=bs);generalize Kg t bs = R at y r l ⊢
  have found : ∃ es,loop (q84 R t) (0,[]) = some es∧∀ a b : Nat,Z9 false ((a : Int),(b : Int)) es = decide (b < R.1.length∧cl t R.1 a b):=by
    refine J5 (fun k es=>((k : Int),es)) R.1.length (fun k es=>∀ a b : Nat,Z9 false ((a : Int),(b : Int)) es = decide (b < k∧cl t R.1 a b)) (fun es=>∀ a b : Nat,Z9 false ((a : Int),(b : Int)) es = decide (b < R.1.length∧cl t R.1 a b)) (fun k es m hi=>?_) (fun es hi=>⟨es,by simp only [q84,dnl,qy],hi⟩) (Nat.zero_le _) (fun a b=>by simp [Z9])
    obtain ⟨aa,z,e2⟩:=J5 (f:=q4q ((k : Int),es) t R) (fun i es=>((i : Int),es)) k (fun i es=>∀ a b : Nat,Z9 false ((a : Int),(b : Int)) es = decide ((b < k∨(b = k∧a < i))∧cl t R.1 a b)) (fun es=>∀ a b : Nat,Z9 false ((a : Int),(b : Int)) es = decide (b < k + 1∧cl t R.1 a b)) (fun i es v hi=>by
      have x : k < t.Lines.length:=by omega
      have u : i < t.Lines.length:=by omega
      left
      have w : cl t R.1 i k↔q2b t.Lines[i] t.Lines[k]∧qco (R.1[i]'(q6)) R.1[k]:=by
        unfold cl;constructor
        · rintro ⟨_,p,q,a,b,d,c,g3,g4,g5,g6⟩;rw [List.getElem?_eq_getElem u] at d;rw [List.getElem?_eq_getElem x] at c;rw [List.getElem?_eq_getElem q6] at g3;rw [List.getElem?_eq_getElem m] at g4;cases d;cases c;cases g3;cases g4;exact ⟨g5,g6⟩
        · rintro ⟨g5,g6⟩;exact ⟨v,_,_,_,_,List.getElem?_eq_getElem u,List.getElem?_eq_getElem x,List.getElem?_eq_getElem q6,List.getElem?_eq_getElem m,g5,g6⟩
      refine ⟨if cl t R.1 i k then Ul ((i : Int),(k : Int)) true es else es,?_,fun a b=>?_⟩
      · have s : i < R.1.length:=by omega
        simp only [q4q,dlt v,Q1,Qt u,Qt x,Qt s,Qt m,qj,qpg,qtm (l _ (Kq s)) (l _ (Kq m)),w64s v (show k≤1000000 by omega)];by_cases d : q2b t.Lines[i] t.Lines[k]
        · by_cases c : qco R.1[i] R.1[k]
          · rw [qr (w.2 ⟨d,c⟩),Q8 d,Q8 c];rfl
          · rw [qp (fun h=>c (w.1 h).2),Q8 d,Q7 c];rfl
        · rw [qp (fun h=>d (w.1 h).1),Q7 d];rfl
      · have ha:=hi a b;by_cases n : cl t R.1 i k
        · rw [qr n,qli,ha];by_cases o : a = i∧b = k
          · obtain ⟨rfl,rfl⟩:=o;rw [qr rfl,Q8 ⟨.inr ⟨rfl,q6⟩,n⟩]
          · rw [qp (fun h=>o (by simp only [Prod.mk.injEq] at h;omega))];rw [decide_eq_decide];constructor
            · rintro ⟨d,c⟩;exact ⟨q6,c⟩
            · rintro ⟨d,c⟩;exact ⟨q6,c⟩
        · rw [qp n,ha,decide_eq_decide];constructor
          · rintro ⟨d,c⟩;exact ⟨q6,c⟩
          · rintro ⟨d,c⟩;refine ⟨?_,c⟩;by_cases o : a = i∧b = k
            · obtain ⟨rfl,rfl⟩:=o;exact absurd c n
            · omega) (fun es hi=>⟨es,by simp only [q4q,dnl,qy],fun a b=>by
        rw [hi,decide_eq_decide];constructor
        · rintro ⟨d,c⟩;exact ⟨q6,c⟩
        · rintro ⟨d,c⟩;have:=c.1
          exact ⟨q6,c⟩⟩) (Nat.zero_le k) (c0:=es) (fun a b=>by
        rw [hi a b,decide_eq_decide];constructor
        · rintro ⟨d,c⟩;exact ⟨.inl d,c⟩
        · rintro ⟨d,c⟩;exact ⟨q6,c⟩)
    refine .inl ⟨aa,?_,e2⟩;have z : loop (q4q ((k : Int),es) t R) (0,es) = some aa:=z;simp only [q84,dlt m,Q1,z,qj,w64s m (show R.1.length≤1000000 by omega)]
  obtain ⟨es,z,e2⟩:=found;rw [z];simp only [qj];have e3 : ∀ a b : Nat,b < R.1.length→Z9 false ((a : Int),(b : Int)) es = decide (cl t R.1 a b):=fun a b hb=>by rw [e2,decide_eq_decide];exact ⟨fun h=>h.2,fun h=>⟨hb,h⟩⟩
  have ao : R.1.length * R.1.length≤2000 * 2000:=Nat.mul_le_mul q6 q6
  have g:=Zu (f:=q4r R es) (fun i=>((i : Int),pairs t R.1 R.1.length i)) R.1.length (pairs t R.1 R.1.length R.1.length) (fun i hi=>by
    have aj:=qm2 t R.1 R.1.length i;have ah : i * R.1.length≤R.1.length * R.1.length:=Nat.mul_le_mul_right _ (Nat.le_of_lt hi)
    have j:=Zu (f:=q4s R ((i : Int),pairs t R.1 R.1.length i) es) (fun k=>((k : Int),pairs t R.1 R.1.length i ++ row t R.1 i k)) R.1.length (pairs t R.1 R.1.length i ++ row t R.1 i R.1.length) (fun k m=>by
      have an:=qn2 t R.1 i k;simp only [q4s,dlt m,Q1,e3 i k m,w64s m (show R.1.length≤1000000 by omega)];rw [qgz];by_cases n : cl t R.1 i k
      · rw [Q8 n,qr n,Q1,Y7 (by simp;omega),List.append_assoc];rfl
      · rw [Q7 n,qp n,List.append_nil];rfl) (by simp only [q4s,dnl,qy]) (Nat.zero_le _)
    have j : loop (q4s R ((i : Int),pairs t R.1 R.1.length i) es) (0,pairs t R.1 R.1.length i) = some (pairs t R.1 R.1.length i ++ row t R.1 i R.1.length):=by
      have e0 : (((0 : Nat) : Int),pairs t R.1 R.1.length i ++ row t R.1 i 0) = ((0 : Int),pairs t R.1 R.1.length i):=by simp [row]
      rw [← e0];exact j
    simp only [q4r,dlt hi,Q1,j,qj,w64s hi (show R.1.length≤1000000 by omega),qcw]) (by simp only [q4r,dnl,qy]) (Nat.zero_le _)
  have g : loop (q4r R es) (0,[]) = some (pairs t R.1 R.1.length R.1.length):=g;rw [g,r];rfl
theorem qxl (p : List (Int × Int)) (b : p.length≤1000000) : q9o p p = some true:=by
  unfold q9o;rw [show ((p.length : Int) != (p.length : Int)) = false by simp,qy]
  rcases Z2 p (fun _=>false) (fun k _=>false) () (q6a p p) (fun k a=>by
    simp only [q6a,dlt a,Q1,Qt a,qj,w64s a b,beq_self_eq_true,Bool.and_true,Bool.not_true,qy]
    rfl) (by simp only [q6a,dnl,qy]) with ⟨a1,a2⟩ | ⟨k,a,hc,_,a2⟩
  · rw [a2];rfl
  · cases hc
end
end Go.Sh
namespace Go.Sh
open Go Go.Am
theorem qps {t : Qv} {bs : List (List qg)} (h : Zi t bs) : (Kg t bs).2 = fstE (barB bs) t.Lines:=by
  unfold Kg;rw [qp (not_not_intro (q8m.2 h))];by_cases a : fstE (barB bs) t.Lines = 0
  · rw [qr a,a]
  · rw [qp a]
theorem qpr {t : Qv} {bs : List (List qg)} (h : Zi t bs) : (Kg t bs).2 = 0∨((Kg t bs).1 = []∧((Kg t bs).2 = 4∨(Kg t bs).2 = 16)):=by
  by_cases a : (Kg t bs).2 = 0
  · exact .inl a
  · have e:=qps h
    have d : (Kg t bs).1 = []:=by
      unfold Kg at a ⊢;rw [qp (not_not_intro (q8m.2 h))] at a ⊢;split at a
      · exact absurd rfl a
      · rename_i g;rw [qp g]
    refine .inr ⟨d,?_⟩
    have c : fstE (barB bs) t.Lines = 0∨fstE (barB bs) t.Lines = 4∨fstE (barB bs) t.Lines = 16:=qkb (P:=fun e=>e = 0∨e = 4∨e = 16) (fun l b=>by
      rcases qpo l (Zz bs l) (Yh.1 (qep h b)).1 with g | ⟨_,g | g⟩
      · exact .inl g
      · exact .inr (.inl g)
      · exact .inr (.inr g)) (.inl rfl)
    rw [e] at a ⊢;rcases c with g | g | g
    · exact absurd g a
    · exact .inl g
    · exact .inr g
theorem q13k {t : Qv} {bs : List (List qg)} (h : Zi t bs) : (Zn t bs).2 = 0∨(Zn t bs).2 = 4∨(Zn t bs).2 = 16:=by
  unfold Zn;rcases qpr h with g | ⟨_,g⟩
  · rw [qp (not_not_intro g)];rcases qcl q8k (qbx (t:=t) (bs:=bs)) with k | ⟨k,_⟩
    · rw [k];exact .inr (.inl rfl)
    · exact .inl k
  · rw [qr (by rcases g with g | g <;> rw [g] <;> decide)];exact .inr g
theorem qii {t : Qv} {bs : List (List qg)} (h : Zi t bs) {l : K1} (a : l∈t.Lines) (d : (barB bs l).2 = 0) (x y z : Int) :
    hasB (barB bs l).1 x y z↔∃ p,onL l.From l.To p∧hasB (Zz bs l) (x - p.X) (y - p.Y) (z - p.Z):=by
  obtain ⟨f,c,_⟩:=Yh.1 (qep h a);have e:=(qih d f).2.2.2 x y z;unfold barB;rw [e,qsi fun b hb=>q140 (c b hb)];simp only [qsg]
theorem q13e {t : Qv} {bs : List (List qg)} (h : (Zn t bs).2 = 0) : Zi t bs∧(Kg t bs).2 = 0∧Qz (Zn t bs).1 = 0∧
    ∀ x y z,hasB (Zn t bs).1 x y z↔∃ l∈t.Lines,∃ p,onL l.From l.To p∧hasB (Zz bs l) (x - p.X) (y - p.Y) (z - p.Z):=by
  unfold Zn at h ⊢;by_cases c : (Kg t bs).2 = 0
  rotate_left
  · rw [qr c] at h;exact absurd h c
  rw [qp (not_not_intro c)] at h ⊢;obtain ⟨d,f,j⟩:=qby c;rcases qcl q8k (qbx (t:=t) (bs:=bs)) with k | ⟨_,m,n⟩
  · rw [k] at h;exact absurd h qx
  refine ⟨d,c,m,fun x y z=>?_⟩;rw [n];constructor
  · rintro (g | ⟨b,hb,g⟩)
    · exact absurd g (q2p x y z)
    · rw [j] at hb;obtain ⟨l,a,rfl⟩:=List.mem_map.1 hb;exact ⟨l,a,(qii d a (f l a) x y z).1 g⟩
  · rintro ⟨l,a,g⟩;refine .inr ⟨(barB bs l).1,?_,(qii d a (f l a) x y z).2 g⟩;rw [j];exact List.mem_map.2 ⟨l,a,rfl⟩
def partT (ls : List K1) : Qv:={Lines:=ls,Marks:=[],End:=({Frame:=({Turn:=0,At:=({X:=0,Y:=0,Z:=0} : Q3)} : Yg),Drawn:=0} : Jw)}
theorem qp7 : FOk ({Turn:=0,At:=({X:=0,Y:=0,Z:=0} : Q3)} : Yg):=by unfold FOk InV;decide
end Go.Sh
namespace Go.Sh
open Go Go.Am
instance (a c : Q3) : Decidable (Ax a c):=by unfold Ax;infer_instance
instance (l : K1) : Decidable (LOk l):=by unfold LOk;infer_instance
def ln (x y u v d : Int) : K1:={From:=({X:=x,Y:=y,Z:=0} : Q3),To:=({X:=u,Y:=v,Z:=0} : Q3),Depth:=d}
def ub : List qg:=[bx 0 0 0 1 1 1]
theorem qt9 (x y u v : Int) : q1o x y u v = some (ln x y u v 0):=rfl
theorem q13z : q5k = some ub:=rfl
theorem qhm : Qz ub = 0:=q2d qx
theorem qiu {ls : List K1} {bs : List (List qg)} (a : ls.length≤2000∧bs.length≤20∧bs.length≠0) (c : ∀ l∈ls,LOk l∧0≤l.Depth) (d : ∀ b∈bs,Qz b = 0) : Zi (partT ls) bs:=
  ⟨⟨⟨a.1,by simp [partT],qp7⟩,fun l h=>(c l h).1,fun m f=>by simp [partT] at f⟩,a.2.1,d,fun _ e=>a.2.2 (by rw [e];rfl),fun l h=>(c l h).2⟩
theorem qig {l : K1} {b m out : List qg} (e : b.map (swp l.From l.To) = m) (h : m.length≤400∧(∀ x∈m,vB x)∧out.length≤400) (d : isB out) (c : ∀ x y z,hasB m x y z↔hasB out x y z) : barS l b = (out,0):=by
  unfold barS;rw [qr (fun x a=>h.2.1 _ (e ▸ List.mem_map_of_mem a)),e];exact qtp h d c
theorem qik {t : Qv} {bs : List (List qg)} {g : K1→List qg} (h : Zi t bs) (b : ∀ l∈t.Lines,barB bs l = (g l,0)) : Kg t bs = (t.Lines.map g,0):=by
  have e : fstE (barB bs) t.Lines = 0:=qfk.2 fun l a=>by rw [b l a]
  unfold Kg;rw [qp (not_not_intro (q8m.2 h)),qr e];congr 1;exact List.map_congr_left fun l a=>by rw [b l a]
theorem q13f {t : Qv} {bs : List (List qg)} {L : List (List qg)} (h : Kg t bs = (L,0)) : Zn t bs = Ya [] L:=by
  unfold Zn;rw [h];rfl
theorem qfv {o b q : List qg} {r : List (List qg)} (h : jB 2 o b = (q,0)) : Ya o (b::r) = Ya q r:=by
  rw [Ya,h];rfl
theorem qpp {l : K1} {b : List qg} (h : LOk l) (hb : Qz b = 0) : barT l b = barS l b:=by
  have : TOk (oneT l):=⟨⟨by simp [oneT],by simp [oneT],qp7⟩,fun k a=>by simp [oneT] at a;subst a;exact h,fun m c=>by simp [oneT] at c⟩
  unfold barT;rw [qp (not_not_intro this),qp (not_not_intro hb)]
theorem qsh (b : qg) (x y z : Int) : hasB [b] x y z↔inB b x y z:=by simp [qfn,q2p]
open Classical in
theorem qvi {t : Qv} {L : List (List qg)} (h : cl t L 0 1) : pairs t L 2 2 = [(0,1)]:=by
  have e : pairs t L 2 2 = row t L 0 2 ++ row t L 1 2:=by rw [qcw,qcw];rfl
  rw [e,qgx t L 1 2 q6,qgz,qgx t L 0 1 q6,qr h];rfl
theorem qpd : q91 = some true:=by
  have b1 : barT (ln 0 0 3 0 0) ub = ([bx 0 0 0 4 1 1],0):=by
    rw [qpp qx qhm];exact qig (m:=[bx 0 0 0 4 1 1]) rfl qx qx fun x y z=>Iff.rfl
  let g : K1→List qg:=fun l=>ub.map (swp l.From l.To)
  have c : ∀ ls : List K1,(∀ l∈ls,Zz [ub] l = ub∧((ub.map (swp l.From l.To)).length≤400∧(∀ x∈ub.map (swp l.From l.To),vB x)∧(ub.map (swp l.From l.To)).length≤400)∧isB (ub.map (swp l.From l.To)))→∀ l∈ls,barB [ub] l = (g l,0):=fun ls h l d=>by
    obtain ⟨n,o,s⟩:=h l d;unfold barB;rw [n];exact qig (m:=ub.map (swp l.From l.To)) rfl o s fun x y z=>Iff.rfl
  have q : Zn (partT [ln 0 0 1 0 0,ln 1 0 2 0 0,ln 2 0 2 1 0]) [ub] = ([bx 0 0 0 2 1 1,bx 2 0 0 3 2 1],0):=by
    have hb:=qik (qiu (bs:=[ub]) (ls:=[ln 0 0 1 0 0,ln 1 0 2 0 0,ln 2 0 2 1 0]) qx qx (by simp [qhm])) (c [ln 0 0 1 0 0,ln 1 0 2 0 0,ln 2 0 2 1 0] qx);rw [q13f hb];have e : (partT [ln 0 0 1 0 0,ln 1 0 2 0 0,ln 2 0 2 1 0]).Lines.map g = [[bx 0 0 0 2 1 1],[bx 1 0 0 3 1 1],[bx 2 0 0 3 2 1]]:=rfl;have r : jB 2 [] [bx 0 0 0 2 1 1] = ([bx 0 0 0 2 1 1],0):=qfu q8k (q2d qx) (isB.can qx) qx fun x y z=>by rw [q3n];simp [q2p]
    have j : jB 2 [bx 0 0 0 2 1 1] [bx 1 0 0 3 1 1] = ([bx 0 0 0 3 1 1],0):=qfu (q2d qx) (q2d qx) (isB.can qx) qx fun x y z=>by
      rw [q3n];simp only [qsh,inB,bx];omega
    have f : jB 2 [bx 0 0 0 3 1 1] [bx 2 0 0 3 2 1] = ([bx 0 0 0 2 1 1,bx 2 0 0 3 2 1],0):=qfu (q2d qx) (q2d qx) (isB.can qx) qx fun x y z=>by
      rw [q3n];simp only [qfn,q2p,or_false,inB,bx];omega
    rw [e,qfv r,qfv j,qfv f];rfl
  have p : volume [bx 0 0 0 2 1 1,bx 2 0 0 3 2 1] = (4,0):=by unfold volume;rw [qp (by simp [q2d (l:=[bx 0 0 0 2 1 1,bx 2 0 0 3 2 1]) qx])];rfl
  have c1 : qc1 (partT [ln 0 0 2 0 0,ln 1 (-1) 1 1 0]) [ub] = ([(0,1)],0):=by
    have hb:=qik (qiu (bs:=[ub]) (ls:=[ln 0 0 2 0 0,ln 1 (-1) 1 1 0]) qx qx (by simp [qhm])) (c [ln 0 0 2 0 0,ln 1 (-1) 1 1 0] qx);have e : (partT [ln 0 0 2 0 0,ln 1 (-1) 1 1 0]).Lines.map g = [[bx 0 0 0 3 1 1],[bx 1 (-1) 0 2 2 1]]:=rfl;rw [e] at hb;unfold qc1;rw [hb]
    have k : cl (partT [ln 0 0 2 0 0,ln 1 (-1) 1 1 0]) [[bx 0 0 0 3 1 1],[bx 1 (-1) 0 2 2 1]] 0 1:=
      ⟨qx,ln 0 0 2 0 0,ln 1 (-1) 1 1 0,_,_,rfl,rfl,rfl,rfl,by unfold q2b ln;simp,1,0,0,qx,qx⟩
    rw [qp qx];exact Prod.ext (qvi k) rfl
  have b : q4t ({Lines:=[ln 0 0 1 0 0,ln 1 0 2 0 0,ln 2 0 2 1 0],Marks:=[],End:=({Frame:=({Turn:=0,At:=({X:=0,Y:=0,Z:=0} : Q3)} : Yg),Drawn:=0} : Jw)} : Qv) [ub] = _:=qoo (partT [ln 0 0 1 0 0,ln 1 0 2 0 0,ln 2 0 2 1 0]) [ub] qx qx qx;have a : q83 ({Lines:=[ln 0 0 2 0 0,ln 1 (-1) 1 1 0],Marks:=[],End:=({Frame:=({Turn:=0,At:=({X:=0,Y:=0,Z:=0} : Q3)} : Yg),Drawn:=0} : Jw)} : Qv) [ub] = _:=qqv (t:=partT [ln 0 0 2 0 0,ln 1 (-1) 1 1 0]) (bs:=[ub]) qx qx qx;unfold q91;simp only [qt9,q13z,qj,qxk,b1,b,q,q127,p,a,c1];rw [show ({Lo:=({X:=0,Y:=0,Z:=0} : Q3),Hi:=({X:=4,Y:=1,Z:=1} : Q3)} : qg) = bx 0 0 0 4 1 1 from rfl,sameBox _ _ qx,qxl _ qx];simp
structure q8e (t : Qv) (bs : List (List qg)) : Prop where
  small : Small t bs
  tok : TOk t
  some' : 1≤bs.length∧bs.length≤5
  depth : ∀ l∈t.Lines,0≤l.Depth
  near : ∀ l∈t.Lines,InV l.From (-1000)∧max (max l.From.X l.From.Y) l.From.Z≤1000
  brush : ∀ b∈bs,Qz b = 0
theorem q8e.ne {t : Qv} {bs : List (List qg)} (h : q8e t bs) : bs≠[]:=fun e=>by have:=h.some'.1;rw [e] at this;simp at this
theorem q8e.ok {t : Qv} {bs : List (List qg)} (h : q8e t bs) : Zi t bs:=⟨h.tok,by have:=h.some'.2;omega,h.brush,fun _=>h.ne,h.depth⟩
theorem qrw (t : Qv) (bs : List (List qg)) : q5g t bs = some false∨(q5g t bs = some true∧q8e t bs):=by
  unfold q5g;rcases qse t bs with h | ⟨h,hs⟩
  · rw [h];exact .inl rfl
  rw [h];have o:=hs.lines;have p:=hs.marks;have r:=hs.many;simp only [qj,qy,qwa t q6 q6];by_cases g : TOk t
  rotate_left
  · rw [qp g];exact .inl rfl
  rw [qr g,show ((0 : Int) != 0) = false from rfl];simp only [qj,qy];by_cases q : bs.length < 1
  · rw [Q8 (by omega : (bs.length : Int) < 1)];exact .inl rfl
  by_cases n : bs.length > 5
  · rw [Q7 (by omega : ¬ (bs.length : Int) < 1),Q8 (by omega : (bs.length : Int) > 5)];exact .inl rfl
  rw [Q7 (by omega : ¬ (bs.length : Int) < 1),Q7 (by omega : ¬ (bs.length : Int) > 5)];simp only [qj,qy]
  rcases Z2 t.Lines (fun l=>!decide (0≤l.Depth∧InV l.From (-1000)∧max (max l.From.X l.From.Y) l.From.Z≤1000)) (fun k _=>false) () (q5h t) (fun k a=>by
    simp only [q5h,dlt a,Q1,Qt a,qj,w64s a (show t.Lines.length≤1000000 by omega),q8f];generalize t.Lines[k] = l;by_cases f : l.Depth < 0
    · have e : decide (0≤l.Depth∧InV l.From (-1000)∧max (max l.From.X l.From.Y) l.From.Z≤1000) = false:=Q7 fun h=>by omega
      rw [e,Q8 f];rfl
    by_cases d : InV l.From (-1000)
    · by_cases j : max (max l.From.X l.From.Y) l.From.Z > 1000
      · have e : decide (0≤l.Depth∧InV l.From (-1000)∧max (max l.From.X l.From.Y) l.From.Z≤1000) = false:=Q7 fun h=>by omega
        rw [e,Q7 f,Q8 d,Q8 j];rfl
      · have e : decide (0≤l.Depth∧InV l.From (-1000)∧max (max l.From.X l.From.Y) l.From.Z≤1000) = true:=Q8 ⟨q6,d,q6⟩;rw [e,Q7 f,Q8 d,Q7 j];rfl
    · have e : decide (0≤l.Depth∧InV l.From (-1000)∧max (max l.From.X l.From.Y) l.From.Z≤1000) = false:=Q7 fun h=>d h.2.1
      rw [e,Q7 f,Q7 d];rfl) (by simp only [q5h,dnl,qy]) with ⟨a1,a2⟩ | ⟨k,a,hc,_,a2⟩
  rotate_left
  · rw [a2];exact .inl rfl
  rw [a2];simp only [qj]
  rcases Z2 bs (fun b=>decide (Qz b≠0)) (fun k _=>false) () (q5i bs) (fun k a=>by
    simp only [q5i,dlt a,Q1,Qt a,qj,w64s a (show bs.length≤1000000 by omega),qmk]
    by_cases h : Qz bs[k] = 0 <;> simp [qem,h]) (by simp only [q5i,dnl,qy]) with ⟨b1,b2⟩ | ⟨k,a,hc,_,b2⟩
  rotate_left
  · rw [b2];exact .inl rfl
  rw [b2];have m : ∀ l∈t.Lines,0≤l.Depth∧InV l.From (-1000)∧max (max l.From.X l.From.Y) l.From.Z≤1000:=fun l c=>by simpa using a1 l c
  exact .inr ⟨rfl,hs,g,q6,fun l c=>(m l c).1,fun l c=>(m l c).2,fun b hb=>by simpa using b1 b hb⟩
theorem qgm {α : Type} (q : α→Bool) : ∀ (l : List α) (a : Bool),l.foldl (fun b x=>b || q x) a = (a || l.any q)
  | [],a=>by simp
  | x::r,a=>by rw [List.foldl_cons,qgm q r,List.any_cons,Bool.or_assoc]
theorem q131 {l : K1} {k : Nat} (h : LOk l) (a : k≤nL l.From l.To) : InV (K6 l.From l.To k) (-1000000):=qsm h.2.1 h.2.2 (q12z h.1 a)
theorem q136 {v p : Q3} (a : InV v (-1000000)) (hp : InV p (-1000000)) : ((q9g (-1) p).bind fun r=>q43 v r) = some ⟨v.X - p.X,v.Y - p.Y,v.Z - p.Z⟩:=by
  unfold q9g q43;unfold InV at a hp;simp only [qj];rw [Qg (x:=-1 * p.X) q6,Qg (x:=-1 * p.Y) q6,Qg (x:=-1 * p.Z) q6,Qg (x:=v.X + -1 * p.X) q6,Qg (x:=v.Y + -1 * p.Y) q6,Qg (x:=v.Z + -1 * p.Z) q6];simp only [Option.some.injEq,Q3.mk.injEq];omega
theorem q14y (t : Qv) (bs : List (List qg)) (v : Q3) : qcm t bs v = some true:=by
  unfold qcm;rw [qpd];simp only [qj];rcases qrw t bs with h | ⟨h,b⟩
  · rw [h];rfl
  rw [h];simp only [qj,Bool.not_true,qy,q8f];by_cases s : InV v (-2000)
  rotate_left
  · rw [Q7 s];rfl
  rw [Q8 s];simp only [Bool.not_true,qy,qj];by_cases y : max (max v.X v.Y) v.Z > 2000
  · rw [Q8 y];rfl
  rw [Q7 y];have h1:=b.small.lines;have h2:=b.small.marks;have h3:=b.small.many;simp only [qy,qj,qoo t bs q6 q6 q6];by_cases o : (Zn t bs).2 = 0
  rotate_left
  · rw [show ((Zn t bs).2 != 0) = true by simpa using o];rcases q13k b.ok with g | g | g
    · exact absurd g o
    · rw [g];rfl
    · rw [g];rfl
  rw [o,show ((0 : Int) != 0) = false from rfl];simp only [qy,Q1,qj];have hv : InV v (-1000000):=by unfold InV at s ⊢;omega
  have f:=qcc t.Lines q6 (fun a l=>a || (ptsL l.From l.To).any fun p=>decide (hasB (Zz bs l) (v.X - p.X) (v.Y - p.Y) (v.Z - p.Z))) (fun a=>a) (q5e t bs v) (fun k n a=>by
    have w:=Kq n;have d:=b.tok.2.1 _ w;have hn:=(b.small.near _ w).2;obtain ⟨e1,z⟩:=qeo b.ok w;have af : (ptsL t.Lines[k].From t.Lines[k].To).length = nL t.Lines[k].From t.Lines[k].To + 1:=by simp [ptsL]
    have m:=qcc (ptsL t.Lines[k].From t.Lines[k].To) q6 (fun a p=>a || decide (hasB (Zz bs t.Lines[k]) (v.X - p.X) (v.Y - p.Y) (v.Z - p.Z))) (fun a=>a) (q5f (ptsL t.Lines[k].From t.Lines[k].To) t (a,(k : Int)) bs v) (fun j u c=>by
      have hp : InV (ptsL t.Lines[k].From t.Lines[k].To)[j] (-1000000):=by
        simp only [ptsL,List.getElem_map,List.getElem_range];exact q131 d q6
      have aa:=(Yh.1 (b.brush _ z)).1;simp only [q5f,qd5,dlt u,Q1,Qt n,Qt u,qj,e1,w64s u (show (ptsL t.Lines[k].From t.Lines[k].To).length≤1000000 by omega)];have:=q136 hv hp;generalize (ptsL t.Lines[k].From t.Lines[k].To)[j] = p at *;cases c
      · obtain ⟨r,q1,q2⟩:=Option.bind_eq_some_iff.1 this;rw [q1];simp only [qj,qy,q2,qwd _ _ (show (Zz bs t.Lines[k]).length≤1000000 by omega),Bool.false_or]
      · simp only [Q1,qj,Bool.true_or]) (fun c=>by simp only [q5f,dnl,qy]) a
    simp only [q5e,dlt n,Q1,Qt n,qj,qvs d (show nL t.Lines[k].From t.Lines[k].To≤1000 by omega),m,w64s n (show t.Lines.length≤1000000 by omega),qgm]) (fun a=>by simp only [q5e,dnl,qy]) false
  rw [f];obtain ⟨k1,k2,x,k4⟩:=q13e o;simp only [qj,qmk,x,qgm,Bool.false_or,Q1,beq_self_eq_true,q120 _ v (show (Zn t bs).1.length≤1000000 by have:=(Yh.1 x).1;omega)]
  have e : decide (hasB (Zn t bs).1 v.X v.Y v.Z) = t.Lines.any fun l=>(ptsL l.From l.To).any fun p=>decide (hasB (Zz bs l) (v.X - p.X) (v.Y - p.Y) (v.Z - p.Z)):=by
    rw [Bool.eq_iff_iff];simp only [decide_eq_true_eq,List.any_eq_true,k4];constructor
    · rintro ⟨l,d,p,hp,q⟩;exact ⟨l,d,p,(qgj (b.tok.2.1 l d).1 p).1 hp,q⟩
    · rintro ⟨l,d,p,hp,q⟩;exact ⟨l,d,p,(qgj (b.tok.2.1 l d).1 p).2 hp,q⟩
  rw [e];simp
end Go.Sh
