/- Rh15 -/
import Derived.Test.YtmekakoiicomaaaGreatK13
namespace Go.Sh
open Go Go.Am
theorem qwy (l : List qd) : q9r l = some (mkR l):=by
  unfold q9r mkR;by_cases b : 400 < l.length
  · rw [Qc (by omega : (l.length : Int) > 400),qz,qy b]
  rw [Qe (by omega : ¬ (l.length : Int) > 400),qx,Q3 b];have d : l.length≤1000000:=by omega
  have hs : ∀ (k : Nat) (h : k < l.length),q4k l (k : Int) = some (if (fun r=>!decide (vR r)) l[k] = true then .inr (.inr (([],8) : List qd × Int)) else .inl ((k + 1 : Nat) : Int)):=by
    intro k h;simp only [q4k,dlt h,qz,Qq h,qj,w64s h d,qms];by_cases j : vR l[k] <;> simp [j]
  have hd : q4k l (l.length : Int) = some (.inr (.inl ())):=by simp only [q4k,dnl,qx]
  rcases q1l l (fun r=>!decide (vR r)) (fun k _=>(([],8) : List qd × Int)) () _ hs hd with ⟨m,a⟩ | ⟨k,g,n,_,a⟩
  · rw [a];have : ∀ r∈l,vR r:=fun r f=>by simpa using m r f
    rw [qy this];simp only [qj,q33 2 (p:=l) (q:=[]) (by simp;omega)];by_cases c : 400 < (mrgR 2 l []).length
    · rw [qy c,Qc (by omega : ((mrgR 2 l []).length : Int) > 400)];rfl
    · rw [Q3 c,Qe (by omega : ¬ ((mrgR 2 l []).length : Int) > 400)];rfl
  · rw [a];have : ¬ ∀ r∈l,vR r:=fun h=>by simp [h _ (Kc g)] at n
    rw [Q3 this];rfl
theorem qxr (s : List qk) : qa3 s = some (footprint s):=by
  unfold qa3 footprint;rw [q9x,qj];by_cases h : ¬ Yb s = 0
  · have : (Yb s != 0) = true:=by simpa using h
    rw [qy h,this,qz];rfl
  replace h:=Classical.not_not.1 h;have c:=(q2a.1 h).1;rw [Q3 (by simp [h]),h,show ((0 : Int) != 0) = false from rfl,qx]
  have:=Zu s Zl [] (fun o=>o) (q6v s) (fun k a o b=>by
    simp only [q6v,dlt a,qz,Qq a,qj,w64s a q6];rw [Ke (by simp at b ⊢;omega)]
    rfl) (fun o=>by simp only [q6v,dnl,qx])
  rw [List.nil_append] at this;rw [this];simp only [qj,qwy]
theorem qp1 {s : List qk} (g : s.length≤400) : ∃ zs,q37 s [] = some zs∧zs.Pairwise (· < ·)∧zs.length≤2 * s.length∧∀ b∈s,b.Lo.Z∈zs∧b.Hi.Z∈zs:=by
  have h:=Zx s;have a : (zsOf ([] : List qk)) = []:=rfl;obtain ⟨_,c,d⟩:=Zq (l:=zsOf s ++ zsOf []) (by rw [a];simp;omega);refine ⟨_,qgp (by simp;omega),c.1,?_,fun b hb=>?_⟩
  · rw [a] at d ⊢;simp only [List.append_nil] at d ⊢;omega
  · have f:=qg4 (p:=s) (q:=[]) (.inl hb);exact ⟨(c.2 _).2 f.1,(c.2 _).2 f.2⟩
theorem qcp {s : List qk} {xs : List Int} (a : xs.Pairwise (· < ·)) (c : ∀ b∈s,b.Lo.Z∈xs∧b.Hi.Z∈xs) {i : Nat} (hi : i + 1 < xs.length) {z : Int} (k : xs[i]≤z) (g : z < xs[i + 1]) : atB s xs[i] = atB s z:=by
  refine qex fun b hb=>?_;rw [Bool.eq_iff_iff,q1j,q1j];obtain ⟨f,d⟩:=c b hb;have j : ¬ (xs[i] < b.Lo.Z∧b.Lo.Z < xs[i + 1]):=fun h=>q8e a hi f h.1 h.2;have l : ¬ (xs[i] < b.Hi.Z∧b.Hi.Z < xs[i + 1]):=fun h=>q8e a hi d h.1 h.2;omega
theorem qkh {s : List qk} {xs : List Int} (a : xs.Pairwise (· < ·)) (c : ∀ b∈s,b.Lo.Z∈xs∧b.Hi.Z∈xs) {x y z : Int} (h : hasB s x y z) : ∃ (i : Nat) (hi : i + 1 < xs.length),xs[i]≤z∧z < xs[i + 1]:=by
  obtain ⟨b,hb,_,_,g⟩:=h;exact qhe a (c b hb).1 (c b hb).2 g.1 g.2
theorem qxp (s : List qk) (x y : Int) : qa2 s x y = some (column s x y):=by
  unfold qa2 column;rw [q9x,qj];by_cases h : ¬ Yb s = 0
  · have : (Yb s != 0) = true:=by simpa using h
    rw [qy h,this,qz];rfl
  replace h:=Classical.not_not.1 h;obtain ⟨q,v,_⟩:=q2a.1 h;rw [Q3 (by simp [h]),h,show ((0 : Int) != 0) = false from rfl,qx];obtain ⟨zs,c1,c2,c3,j⟩:=qp1 q;rw [c1];simp only [qj]
  have a:=Zu zs (fun z=>decide (hasB s x y z)) [] (fun o=>o) (q6u zs s x y) (fun k l o p=>by
    simp only [q6u,dlt l,qz,Qq l,qj,qxd s _ q6,w64s l q6];rw [Ke (by simp at p ⊢;omega)]
    rfl) (fun o=>by simp only [q6u,dnl,qx])
  rw [List.nil_append] at a;obtain ⟨c,r,n⟩:=q8s zs (zs.map fun z=>decide (hasB s x y z)) c2 q6 qe;rw [a];simp only [qj,r];have u:=qcv s x y;have m:=(q2x 2 (colS s x y) [] q6 qe).2;congr 1;congr 1;refine q29 n.can m.can fun z=>?_;rw [n.pts,m.pts,qd9,qsk];constructor
  · rintro ⟨i,hi,t,_,b,f,g⟩;simp only [List.getElem_map,decide_eq_true_eq] at b;refine .inl ?_;rw [← Jn,← qcp c2 j hi f g,Jn];exact b
  · rintro (d | d)
    · obtain ⟨i,hi,f,g⟩:=qkh c2 j d;refine ⟨i,hi,by simp;omega,q6,?_,f,g⟩;simp only [List.getElem_map,decide_eq_true_eq];rw [← Jn,qcp c2 j hi f g,Jn];exact d
    · exact absurd d (q1u z)
def Yg (t : Int × Int × List qd) : List qk:=t.2.2.map (putB t.1 t.2.1)
theorem qxv {l : List qd} (f : l.length≤400) (a b : Int) : qa4 l a b = some (l.map (putB a b)):=by
  have:=Zu l (putB a b) [] (fun o=>o) (q6w l a b) (fun k c o d=>by
    simp only [q6w,dlt c,qz,Qq c,qj,w64s c q6];rw [Ke (by simp at d ⊢;omega)]
    rfl) (fun o=>by simp only [q6w,dnl,qx])
  rw [List.nil_append] at this;unfold qa4;rw [this];rfl
theorem qph {zs : List Int} {sec : Int→List qd} (hs : zs.Pairwise (· < ·)) {i : Nat} (hi : i + 1 < zs.length) {z : Int} (g : zs[i]≤z) (c : z < zs[i + 1]) : atB ((K5 zs sec).flatMap Yg) z = sec zs[i]:=by
  have l:=J8 zs sec
  have key : ∀ k,k≤(K5 zs sec).length→atB (((K5 zs sec).take k).flatMap Yg) z = if i < k then sec zs[i] else []:=by
    intro k
    induction k with
    | zero=>intro _;simp [atB]
    | succ k ih=>
      intro f;have a : k + 1 < zs.length:=by omega
      rw [List.take_succ_eq_append_getElem f,List.flatMap_append,qic,ih q6,Zd f a];have e : ([(zs[k],zs[k + 1],sec zs[k])] : List (Int × Int × List qd)).flatMap Yg = (sec zs[k]).map (putB zs[k] zs[k + 1]):=by simp [Yg]
      rw [e,qie];by_cases b : i = k
      · subst b;rw [Q3 (Nat.lt_irrefl _),qy ⟨g,c⟩,qy (Nat.lt_succ_self _),List.nil_append]
      · have j : ¬ (zs[k]≤z∧z < zs[k + 1]):=fun h=>b (q118 hs hi a ⟨g,c⟩ h);rw [Q3 j,List.append_nil];by_cases d : i < k
        · rw [qy d,qy q6]
        · rw [Q3 d,Q3 q6]
  have:=key (K5 zs sec).length (Nat.le_refl _);rw [List.take_length,qy q6] at this;exact this
theorem qxt {p : List qk} {d : Int} (hc : Yb p = 0) (hl : p.length≤30) (hd : 1≤d∧d≤1000000) {q : List qk} (hq : CanB q) (bb : ∀ z,atB q z = shrS d (atB p z)) :
    q38 p d = some (if 400 < q.length then ([],4) else (q,0)):=by
  obtain ⟨zs,c1,c2,c3,hm⟩:=qp1 (s:=p) q6;unfold q38;rw [q9x,hc];simp only [qj,bne_self_eq_false,qx];rw [Qe (by omega : ¬ d < 1),Qe (by omega : ¬ d > 1000000),c1];simp only [qx,qj];obtain ⟨S,hS⟩ : ∃ S : Int→List qd,∀ z,S z = shrS d (atB p z):=⟨fun z=>shrS d (atB p z),fun z=>rfl⟩
  have aa : ∀ z,atB q z = S z:=fun z=>(bb z).trans (hS z).symm;have bk:=J8 zs S;have ac : ∀ z,(atB p z).length≤30:=fun z=>by have:=Je p z;omega
  have ao : ∀ z,q6i (atB p z) d = some (if 400 < (S z).length then ([],4) else (S z,0)):=fun z=>by
    rw [qx6 (qip hc z) (ac z) q6,qgz,hS]
  have ad : ∀ z,J6 p z = some (atB p z):=fun z=>q9v p q6 z
  have main:=qg0 (f:=q4r zs p d) (fun k=>((k : Int),((K5 zs S).take k).flatMap Yg)) (K5 zs S).length
    (fun j=>∀ v,zs[j]? = some v→(S v).length≤400) (.inl ((K5 zs S).flatMap Yg)) (.inr ([],4)) (fun k hk n=>by
      have a : k < zs.length:=by omega
      have o : k + 1 < zs.length:=by omega
      have hw : w64 ((k : Int) + 1) = ((k + 1 : Nat) : Int):=w64s a q6;have h4:=n k (Nat.le_refl _) _ (List.getElem?_eq_getElem a)
      have aw : (((K5 zs S).take k).flatMap Yg).length≤60 * 400:=by
        have h1:=q5t (f:=Yg) (l:=(K5 zs S).take k) (M:=400) fun t ht=>by
          obtain ⟨j,hj,rfl⟩:=List.getElem_of_mem ht;rw [List.length_take] at hj;have ah : j + 1 < zs.length:=by omega
          have bj : j < (K5 zs S).length:=by omega
          rw [List.getElem_take,Zd bj ah];unfold Yg;rw [List.length_map];exact n j q6 _ (List.getElem?_eq_getElem q6)
        rw [List.length_take] at h1;exact Nat.le_trans h1 (Nat.mul_le_mul_right _ q6)
      have m:=ao zs[k];rw [Q3 (Nat.not_lt.2 h4)] at m;have bc:=Zd hk o;simp only [q4r,hw,dlt o,qz,Qq a,Qq o,qj,ad,m,bne_self_eq_false,qx,qxv h4];rw [Ke (by rw [List.length_map];omega)];simp only [qj];rw [List.take_succ_eq_append_getElem hk,List.flatMap_append,bc]
      simp [Yg]) (fun k hk _ al=>by
      have a : k < zs.length:=by omega
      have o : k + 1 < zs.length:=by omega
      have hw : w64 ((k : Int) + 1) = ((k + 1 : Nat) : Int):=w64s a q6
      have h4 : 400 < (S zs[k]).length:=Nat.not_le.1 fun h=>al fun v c=>by
        rw [List.getElem?_eq_getElem a] at c;cases c;exact h
      have m:=ao zs[k];rw [qy h4] at m;have au : ((4 : Int) != 0) = true:=rfl
      simp only [q4r,hw,dlt o,qz,Qq a,qj,ad,m,au]) (fun _=>by
      have hb : decide (w64 (((K5 zs S).length : Int) + 1) < (zs.length : Int)) = false:=by
        rw [Ql q6];exact Qe q6
      simp only [q4r,hb,qx,List.take_length])
  have be : (((0 : Nat) : Int),((K5 zs S).take 0).flatMap Yg) = ((0,[]) : Int × List qk):=rfl;rw [be] at main;rcases main with ⟨n,h2⟩ | ⟨j,hj,hb,h2⟩
  · rw [h2];simp only [qj]
    have bn : ((K5 zs S).flatMap Yg).length≤60 * 400:=by
      have h1:=q5t (f:=Yg) (l:=K5 zs S) (M:=400) fun t ht=>by
        obtain ⟨j,hj,rfl⟩:=List.getElem_of_mem ht;have ah : j + 1 < zs.length:=by omega
        rw [Zd hj ah];unfold Yg;rw [List.length_map];exact n j hj _ (List.getElem?_eq_getElem q6)
      exact Nat.le_trans h1 (Nat.mul_le_mul_right _ q6)
    have w : ∀ z,¬ (∃ (i : Nat) (hi : i + 1 < zs.length),zs[i]≤z∧z < zs[i + 1])→atB ((K5 zs S).flatMap Yg) z = []:=fun z h=>List.eq_nil_iff_forall_not_mem.2 fun r hr=>by
      obtain ⟨b,hb,g,rfl⟩:=q9e.1 hr;obtain ⟨t,ht,hb⟩:=List.mem_flatMap.1 hb;obtain ⟨i,hi,rfl⟩:=q5z.1 ht;unfold Yg at hb;obtain ⟨r,_,rfl⟩:=List.mem_map.1 hb;exact h ⟨i,hi,g⟩
    have hz : ∀ z,(atB ((K5 zs S).flatMap Yg) z = S z):=fun z=>by
      by_cases h : ∃ (i : Nat) (hi : i + 1 < zs.length),zs[i]≤z∧z < zs[i + 1]
      · obtain ⟨i,hi,a1,a2⟩:=h;rw [qph c2 hi a1 a2,hS,hS,qcp c2 hm hi a1 a2]
      · have e1 : atB p z = []:=List.eq_nil_iff_forall_not_mem.2 fun r hr=>by
          obtain ⟨b,hb,g,rfl⟩:=q9e.1 hr;have aj:=(q2a.1 hc).2.1 b hb;refine h (qkh c2 hm (x:=b.Lo.X) (y:=b.Lo.Y) ⟨b,hb,?_,?_,g⟩)
          · unfold vB at aj;omega
          · unfold vB at aj;omega
        rw [w z h,hS,e1,qh1]
    have ab : ∀ z,(S z).length≤400:=fun z=>by
      by_cases h : ∃ (i : Nat) (hi : i + 1 < zs.length),zs[i]≤z∧z < zs[i + 1]
      · obtain ⟨i,hi,a1,a2⟩:=h;rw [hS,← qcp c2 hm hi a1 a2,← hS];exact n i q6 _ (List.getElem?_eq_getElem q6)
      · rw [← hz z,w z h];simp
    have u : ∀ z,mrgR 2 (S z) [] = S z:=fun z=>qlo (by have:=ab z;omega) (by rw [hS];exact qh0 (by have:=ac z;omega));have ai : ∀ z,atB ([] : List qk) z = []:=fun z=>rfl
    have an : ∀ z,qcl 2 ((K5 zs S).flatMap Yg) [] z:=fun z=>by
      have:=ab z;refine ⟨?_,?_,?_,?_⟩
      · rw [hz,ai,List.length_nil];omega
      · rw [hz,ai,u];exact this
      · rw [hz,u];exact this
      · rw [ai,qdn];simp
    have h0 : ((K5 zs S).flatMap Yg).length + ([] : List qk).length≤100000:=by simp only [List.length_nil];omega
    have bi : (Qt (zsOf ((K5 zs S).flatMap Yg) ++ zsOf [])).length≤2000:=by
      have bo:=Zx ((K5 zs S).flatMap Yg);obtain ⟨_,s3,_⟩:=Zq (l:=zsOf ((K5 zs S).flatMap Yg) ++ zsOf []) (by have : zsOf ([] : List qk) = []:=rfl;rw [this,List.append_nil];omega)
      have:=qod s3.1 (b:=zs) fun v c=>by
        have c:=(s3.2 v).1 c;simp only [zsOf,List.flatMap_nil,List.append_nil,List.mem_flatMap] at c;obtain ⟨b,⟨t,ht,hb⟩,c⟩:=c;obtain ⟨i,hi,rfl⟩:=q5z.1 ht;unfold Yg at hb;obtain ⟨r,_,rfl⟩:=List.mem_map.1 hb;simp only [putB,List.mem_cons,List.not_mem_nil,or_false] at c;rcases c with rfl | rfl <;> exact Kc _
      omega
    have bg : mrgB 2 ((K5 zs S).flatMap Yg) [] = q:=qik (qga 2 h0) hq fun x y z=>by
      rw [qkf (by simpa using h0),← Jn,← Jn,hz,aa]
    rw [qxi 2 h0 an bi,bg];simp only [qj];by_cases h5 : 400 < q.length
    · rw [qy h5,Qc (by omega : (q.length : Int) > 400)];rfl
    · rw [Q3 h5,Qe (by omega : ¬ (q.length : Int) > 400)];rfl
  · rw [h2];simp only [qj];have ay : j < zs.length:=by omega
    have h4 : 400 < (S zs[j]).length:=Nat.not_le.1 fun h=>hb fun v c=>by
      rw [List.getElem?_eq_getElem ay] at c;cases c;exact h
    rw [← aa] at h4;have:=Je q zs[j];rw [qy (Nat.lt_of_lt_of_le h4 this)]
open Classical in
theorem qsn (p : List qk) (d : Int) (h : p.length≤30∨400 < p.length) : ∃ r : List qk × Int,q39 p d = some r∧q38 p d = some r∧r.1.length≤400:=by
  by_cases a : ¬ Yb p = 0
  · have hb : (Yb p != 0) = true:=by simpa using a
    refine ⟨([],Yb p),?_,?_,qe⟩
    · unfold q39;rw [qc3,qj,hb];rfl
    · unfold q38;rw [q9x,qj,hb];rfl
  replace a:=Classical.not_not.1 a;have c:=(q2a.1 a).1;by_cases hd : 1≤d∧d≤1000000
  · obtain ⟨q,b,f,g⟩:=qsm a q6 hd;refine ⟨_,g,qxt a q6 hd b f,?_⟩;split
    · simp
    · simp only;omega
  · refine ⟨([],2),?_,?_,qe⟩
    · unfold q39;rw [qc3,qj,a];by_cases b : d < 1
      · rw [Qc b];rfl
      · rw [Qe b,Qc (by omega : d > 1000000)];rfl
    · unfold q38;rw [q9x,qj,a];by_cases b : d < 1
      · rw [Qc b];rfl
      · rw [Qe b,Qc (by omega : d > 1000000)];rfl
theorem qs3 (p : List qk) : (footprint p).1.length≤400:=by
  unfold footprint mkR;split
  · simp
  · split
    · simp
    · split
      · split
        · simp
        · simp only;omega
      · simp
theorem qr3 (p : List qk) (x y : Int) : (column p x y).1.length≤1000000:=by
  unfold column;split
  · simp
  · rename_i h;have b:=(q2a.1 (Classical.not_not.1 h)).1;have a:=qcv p x y;have:=(q2x 2 (colS p x y) [] q6 qe).2.len;simp only;simp at this;omega
theorem q151 (p : List qk) (x y d : Int) : qde p x y d = some true:=by
  unfold qde;rw [qxb];by_cases b : (30 < p.length∧p.length≤400)∨420 < p.length
  · rw [Qc b];rfl
  rw [Qe b];have a : q6t p = some p:=qxk p q6;obtain ⟨r,f,c,g⟩:=qsn p d q6;simp only [qj,qx,a,qxz,qxr,qxx,qxp,f,c,qe1 _ _ (by have:=qs3 p;omega : (footprint p).1.length≤1000000),qad _ _ (qr3 p x y),sameBox r.1 r.1 q6,sameBox p p q6,beq_self_eq_true,decide_true,qz]
end Go.Sh
