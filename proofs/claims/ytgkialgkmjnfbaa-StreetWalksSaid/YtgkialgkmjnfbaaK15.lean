/- St26 St27 St41 St42 -/
import Derived.Test.YtgkialgkmjnfbaaK14
namespace Go.Sh
open Go Go.Am
abbrev pq (x y : Int) : qb:={X:=x,Y:=y}
abbrev sg (a b c d : Int) : qt:={A:=pq a b,B:=pq c d}
abbrev ed (a b : Int) : qk:={A:=a,B:=b}
def n4 : Qq:={Nodes:=[pq 0 0,pq 2 0,pq 2 3,pq 4 0],Edges:=[ed 0 1,ed 1 2,ed 1 3]}
def n5 : Qq:={Nodes:=[pq 0 0,pq 2 (-1),pq 2 0,pq 2 3,pq 4 0],Edges:=[ed 0 2,ed 1 2,ed 2 3,ed 2 4]}
def n6 : Qq:={Nodes:=[pq 0 0,pq 2 0,pq 2 2,pq 4 0],Edges:=[ed 0 1,ed 1 2,ed 1 3]}
def n2 : Qq:={Nodes:=[pq 0 0,pq 4 0],Edges:=[ed 0 1]}
theorem net4 : netB [sg 0 0 4 0,sg 2 0 2 3] n4 = true:=by decide +kernel
theorem net5 : netB [sg 0 0 4 0,sg 2 3 2 0,sg 2 (-1) 2 0] n5 = true:=by decide +kernel
theorem net6 : netB [sg 0 0 4 0,sg 2 2 2 0] n6 = true:=by decide +kernel
theorem net2 : netB [sg 0 0 2 0,sg 2 0 4 0] n2 = true:=by decide +kernel
theorem ql9 {l : List qt} {n : Qq} (h : netB l n = true) : q5p n l = some true:=by
  obtain ⟨_,_,b,hs,e⟩:=q8i h;obtain ⟨c1,_,_,_⟩:=qh9 hs.fit hs;unfold q5p;have a:=qgt n n (by have:=hs.fit.1.1;omega) (by have:=hs.fit.1.2;omega);simp only [e,qq,a,decide_true,c1,beq_self_eq_true,Qb]
open Classical in
theorem qj6 (l : List qt) (p : qb) : degN l p = b2z (rowB l p.Y p.X) + b2z (colB l p.X p.Y) + b2z (rowB l p.Y (p.X - 1)) + b2z (colB l p.X (p.Y - 1)):=by
  have e : ∀ {b : Bool} {P : Prop},(b = true↔P)→decide P = b:=by
    intro b P h;cases b
    · exact Q6 (fun hp=>by have:=h.2 hp;cases this)
    · exact Q2 (h.1 rfl)
  unfold degN;rw [e q90,e q7r,e q90,e q7r]
theorem qj7 {l : List qt} {n : Qq} (h : netB l n = true) {i : Nat} (hi : i < n.Nodes.length) : q30 n (i : Int) = some (degN l n.Nodes[i],0):=by
  obtain ⟨c,f,a,hs,e⟩:=q8i h;have hb:=qid (show l.length≤400 by omega) c;rw [(qr1 hs.fit hs hi).1];have d : rowP (Uq n) = rowP l:=by funext y x;exact propext (qje hb a y x)
  have b : colP (Uq n) = colP l:=by funext y x;exact propext (qjd hb a y x)
  unfold degN;rw [d,b]
def w1 : Ku:={At:=pq 0 0,Head:=0,Steps:=4}
def w2 : Ku:={At:=pq 2 2,Head:=3,Steps:=9}
def V4 : List (qb × Bool):=[(pq 0 0,true),(pq 1 0,true),(pq 2 0,true),(pq 3 0,true),(pq 4 0,true)]
theorem pb {x y : Int} (h : -1000≤x∧x≤1000∧-1000≤y∧y≤1000) : PtB {X:=x,Y:=y}:=by unfold PtB;simp only;omega
theorem q12z : q35 [] w1 [] [] = some (0,V4,[sg 0 0 4 0]):=by
  have s0 : Z4 w1 [] (0,0,[],[],0,0) = some (.inl (0,1,[(pq 0 0,true),(pq 1 0,true)],[sg 0 0 1 0],1,0)):=(qou w1 (h:=0) (d:=pq 1 0) q9 rfl Q0 (pq 0 0) (pb Q0) (pb Q0) [] [] qc).trans rfl;have s1 : Z4 w1 [] (0,1,[(pq 0 0,true),(pq 1 0,true)],[sg 0 0 1 0],1,0) = some (.inl (0,2,[(pq 0 0,true),(pq 1 0,true),(pq 2 0,true)],[sg 0 0 2 0],2,0)):=(qdu w1 (h:=0) (d:=pq 1 0) q9 rfl (k:=1) q9 Q0 q9 (pq 1 0) (pb Q0) (pb Q0) [(pq 0 0,true),(pq 1 0,true)] [] (sg 0 0 1 0) qc).trans rfl;have c : Z4 w1 [] (0,2,[(pq 0 0,true),(pq 1 0,true),(pq 2 0,true)],[sg 0 0 2 0],2,0) = some (.inl (0,3,[(pq 0 0,true),(pq 1 0,true),(pq 2 0,true),(pq 3 0,true)],[sg 0 0 3 0],3,0)):=(qdu w1 (h:=0) (d:=pq 1 0) q9 rfl (k:=2) q9 Q0 q9 (pq 2 0) (pb Q0) (pb Q0) [(pq 0 0,true),(pq 1 0,true),(pq 2 0,true)] [] (sg 0 0 2 0) qc).trans rfl;have a : Z4 w1 [] (0,3,[(pq 0 0,true),(pq 1 0,true),(pq 2 0,true),(pq 3 0,true)],[sg 0 0 3 0],3,0) = some (.inl (0,4,V4,[sg 0 0 4 0],4,0)):=(qdu w1 (h:=0) (d:=pq 1 0) q9 rfl (k:=3) q9 Q0 q9 (pq 3 0) (pb Q0) (pb Q0) [(pq 0 0,true),(pq 1 0,true),(pq 2 0,true),(pq 3 0,true)] [] (sg 0 0 3 0) qc).trans rfl;have b : Z4 w1 [] (0,4,V4,[sg 0 0 4 0],4,0) = some (.inr (.inl (V4,[sg 0 0 4 0]))):=rfl;unfold q35;show (loop (Z4 w1 []) (0,0,[],[],0,0)).bind _ = _;rw [Kc s0,Kc s1,Kc c,Kc a,K7 b];rfl
theorem q130 : ∃ V,q35 [] w2 [sg 0 0 4 0] V4 = some (0,V,[sg 0 0 4 0,sg 2 2 2 0]):=by
  have s0 : Z4 w2 [] (3,0,V4,[sg 0 0 4 0],2,2) = some (.inl (3,1,V4 ++ [(pq 2 2,true),(pq 2 1,true)],[sg 0 0 4 0,sg 2 2 2 1],2,1)):=(qou w2 (h:=3) (d:=pq 0 (-1)) q9 rfl Q0 (pq 2 2) (pb Q0) (pb Q0) V4 [sg 0 0 4 0] qc).trans rfl;have s1 : Z4 w2 [] (3,1,V4 ++ [(pq 2 2,true),(pq 2 1,true)],[sg 0 0 4 0,sg 2 2 2 1],2,1) = some (.inr (.inl (V4 ++ [(pq 2 2,true),(pq 2 1,true)],[sg 0 0 4 0,sg 2 2 2 0]))):=(qdu w2 (h:=3) (d:=pq 0 (-1)) q9 rfl (k:=1) q9 Q0 q9 (pq 2 1) (pb Q0) (pb Q0) (V4 ++ [(pq 2 2,true),(pq 2 1,true)]) [sg 0 0 4 0] (sg 2 2 2 1) qc).trans rfl;refine ⟨V4 ++ [(pq 2 2,true),(pq 2 1,true)],?_⟩;unfold q35;show (loop (Z4 w2 []) (3,0,V4,[sg 0 0 4 0],2,2)).bind _ = _;rw [Kc s0,K7 s1];rfl
theorem qt7 : q19 [] [w1,w2] = some (n6,0):=by
  obtain ⟨V,j⟩:=q130;have c : q31 [w1,w2] 0 = some (.inl 1):=rfl;have f : q31 [w1,w2] 1 = some (.inl 2):=rfl;have g : q31 [w1,w2] 2 = some (.inr (.inl ())):=rfl;have e0 : ((0 : Int) != 0) = false:=rfl
  have d : Jl [w1,w2] [] (0,[],[]) = some (.inl (1,[sg 0 0 4 0],V4)):=by
    unfold Jl;have b : decide ((0 : Int) < (([w1,w2] : List Ku).length : Int)) = true:=rfl;have a : idx [w1,w2] 0 = some w1:=rfl;simp only [b,Qb,a,qq,q12z,e0,Q4];rfl
  have b1 : Jl [w1,w2] [] (1,[sg 0 0 4 0],V4) = some (.inl (2,[sg 0 0 4 0,sg 2 2 2 0],V)):=by
    unfold Jl;have b : decide ((1 : Int) < (([w1,w2] : List Ku).length : Int)) = true:=rfl;have a : idx [w1,w2] 1 = some w2:=rfl;simp only [b,Qb,a,qq,j,e0,Q4];rfl
  have b2 : Jl [w1,w2] [] (2,[sg 0 0 4 0,sg 2 2 2 0],V) = some (.inr (.inl [sg 0 0 4 0,sg 2 2 2 0])):=rfl;unfold q19;have h : decide ((([w1,w2] : List Ku).length : Int) > 30) = false:=rfl;rw [qjs,qq,e0,Q4,h,Q4,Kc c,Kc f,K7 g];simp only [qq];rw [Kc d,Kc b1,K7 b2];simp only [qq];rw [(q8i net6).2.2.2.2];rfl
theorem qtg : q8z n5.Nodes (pq 2 0) = some 2:=by
  have b : q69 n5.Nodes (pq 2 0) 0 = some (.inl 1):=rfl;have a : q69 n5.Nodes (pq 2 0) 1 = some (.inl 2):=rfl;have c : q69 n5.Nodes (pq 2 0) 2 = some (.inr (.inr 2)):=rfl;unfold q8z;rw [Kc b,Kc a,K7 c];rfl
theorem len4 : q7b n4 = some (7,0):=by
  obtain ⟨_,_,f,hs,_⟩:=q8i net4;obtain ⟨a,c,e1,_,b,h⟩:=qu0 hs.fit;have d:=h _ hs;obtain ⟨c1,_,_,_⟩:=qh9 hs.fit hs;rw [b] at c1;cases c1;have : Yx (Uq n4) = 7:=by rfl
  rw [e1,d,this]
theorem qe3 : q4k = some true:=by
  have d : q30 n4 1 = some (3,0):=by
    have:=qj7 net4 (i:=1) Q0;rw [qj6] at this;exact this
  have k : q30 n5 2 = some (4,0):=by
    have:=qj7 net5 (i:=2) Q0;rw [qj6] at this;exact this
  have l:=(q8i net5).2.2.2.2;have g:=ql9 net4;have c:=ql9 net2;have j:=qtg;have b:=len4;have f:=qt7;have a:=qgt n6 n6 Q0 Q0;unfold n4 at d g b;unfold w1 w2 at f;unfold n2 at c;unfold q4k;simp only [Yb,q1v,qq,d,b,l,j,k,f,g,c,beq_self_eq_true,Qb]
  have h : q2u n6 {Nodes:=[{X:=0,Y:=0},{X:=2,Y:=0},{X:=2,Y:=2},{X:=4,Y:=0}],Edges:=[{A:=0,B:=1},{A:=1,B:=2},{A:=1,B:=3}]} = some true:=by
    have:=a;rw [Q2 rfl] at this;exact this
  rw [h];rfl
end Go.Sh
namespace Go.Sh
open Go Go.Am
end Go.Sh
namespace Go.Sh
open Go Go.Am
def Y9 (l : List K5) : Nat→Nat→qb→List qb
  | 0,_,_=>[]
  | n + 1,h,p=>goV l p h::Y9 l n (Kd l p h) (goV l p h)
theorem qhj (l : List K5) : ∀ (n h : Nat) (p : qb),(Y9 l n h p).length = n
  | 0,_,_=>rfl
  | n + 1,h,p=>by rw [Y9,List.length_cons,qhj l n]
open Classical in
theorem q12v {l : List K5} (n : l.length≤60) (o : ∀ v∈l,Ym v) {N k h : Nat} (hk : k < N) (t : N≤1000) {p : qb} (hp : PtB p) (j : h < 4) {out : List qb} (s : out.length≤1000) :
    J8 (N : Int) l ((h : Int),(k : Int),p.X,p.Y,out) = if PtB (goV l p h) then some (.inl ((Kd l p h : Int),((k + 1 : Nat) : Int),(goV l p h).X,(goV l p h).Y,out ++ [goV l p h])) else some (.inr (.inr ([],16))):=by
  have hp':=hp;unfold PtB at hp';have m:=q4h (l:=l) (p:=p) j;have hd:=qeu m;have g:=qet m
  have d : idxA 4 [({X:=1,Y:=0} : qb),({X:=0,Y:=1} : qb),({X:=(-1),Y:=0} : qb),({X:=0,Y:=(-1)} : qb)] (Kd l p h : Int) = some (dirV (Kd l p h)):=by
    unfold idxA;rw [qr q9,Int.toNat_natCast];exact hd
  have r:=qkj (a:=Zl l p) j (by unfold Zl;split <;> (try split) <;> omega);unfold J8;have q : q2e l ({X:=p.X,Y:=p.Y} : qb) = some (Zl l p : Int):=(qib n o hp).1;simp only [Q2 (show (k : Int) < (N : Int) by omega),Qb,q,qq];rw [← Option.bind_assoc,r,qq];have b:=d;unfold Kd at b ⊢;simp only [b,qq];have f : goV l p h = {X:=p.X + (dirV (if Zl l p < 2∧h % 2≠Zl l p then (h + 1) % 4 else h)).X,Y:=p.Y + (dirV (if Zl l p < 2∧h % 2≠Zl l p then (h + 1) % 4 else h)).Y}:=rfl;unfold Kd at g;rw [Qd (x:=p.X + _) q9,Qd (x:=p.Y + _) q9,← f,q3h,qq,Qd (x:=(k : Int) + 1) q9];by_cases c : PtB (goV l p h)
  · rw [Q2 c,qr c,Zu (by simp;omega)];rfl
  · rw [Q6 c,qu c];rfl
open Classical in
theorem qor {l : List K5} (g : l.length≤60) (j : ∀ v∈l,Ym v) {N : Nat} (m : N≤500) : ∀ (n : Nat) {k h : Nat} {p : qb} {out : List qb},k + n = N→PtB p→h < 4→out.length = k + 1→
    loop (J8 (N : Int) l) ((h : Int),(k : Int),p.X,p.Y,out) = some (if ∀ q∈Y9 l n h p,PtB q then .inl (out ++ Y9 l n h p) else .inr ([],16))
  | 0,k,h,p,out,hk,hp,hh,ho=>by
    have : J8 (N : Int) l ((h : Int),(k : Int),p.X,p.Y,out) = some (.inr (.inl out)):=by
      unfold J8;rw [Q6 (show ¬ ((k : Int) < (N : Int)) by omega),Q4]
    rw [K7 this,qr (fun q b=>by cases b),Y9,List.append_nil]
  | n + 1,k,h,p,out,hk,hp,hh,ho=>by
    have a:=q12v g j (N:=N) (k:=k) (h:=h) q9 q9 hp hh (out:=out) q9;by_cases b : PtB (goV l p h)
    · rw [qr b] at a;rw [Kc a,qor g j m n q9 b (q4h hh) (by simp [ho]),Y9];by_cases c : ∀ q∈Y9 l n (Kd l p h) (goV l p h),PtB q
      · rw [qr c,qr (fun q f=>(List.mem_cons.1 f).elim (fun e=>by rw [e];exact b) (c q)),List.append_assoc];rfl
      · rw [qu c,qu (fun d=>c fun q f=>d q (List.mem_cons_of_mem _ f))]
    · rw [qu b] at a;rw [K7 a,qu (fun d=>b (d _ (by rw [Y9];simp)))]
open Classical in
theorem q12u {l : List K5} (d : Jd l = 0) {p : qb} (hp : PtB p) {h n : Nat} (j : h < 4) (m : n≤500) : Ju l p (h : Int) (n : Int) = some (if ∀ q∈Y9 l n h p,PtB q then (p::Y9 l n h p,0) else ([],16)):=by
  obtain ⟨g,f⟩:=qf3 d;have e0 : ((0 : Int) != 0) = false:=rfl;have c:=qor g f m n (k:=0) (h:=h) (p:=p) (out:=[p]) q9 hp j rfl;have a : loop (J8 (n : Int) l) ((h : Int),0,p.X,p.Y,[p]) = _:=c;unfold Ju;rw [qf2,d,qq,e0,Q4,q3h,Q2 hp,qq,Bool.not_true,Q4,qq,Q6 (show ¬ (h : Int) > 3 by omega),Q4,qq,Q6 (show ¬ (n : Int) < 0 by omega),Q4,qq,Q6 (show ¬ (n : Int) > 500 by omega),Q4,a];by_cases b : ∀ q∈Y9 l n h p,PtB q
  · rw [qr b,qr b];rfl
  · rw [qu b,qu b];rfl
structure Agree (own U : List qt) : Prop where
  row : ∀ y x,(∃ s∈own,rowQ s y x)↔∃ s∈U,rowQ s y x
  col : ∀ x y,(∃ s∈own,colQ s x y)↔∃ s∈U,colQ s x y
def q5e (s : qt) : Prop:=∃ h,h < 4∧s.B = J1 s.A h∧PtB s.A∧PtB s.B
theorem qtv {t : List qb} {i : Nat} (hi : i < t.length) (U : List qt) (c : Int) (p : t.length≤1000) : loop (q4j ((i : Int),U) (t,c)) (false,0) = some (decide (t[i]∈t.take i)):=by
  have:=Yv (f:=q4j ((i : Int),U) (t,c)) (σ:=Bool) (fun k b=>(b,(k : Int))) i (fun k b=>b = decide (t[i]∈t.take k)) (fun o=>o = decide (t[i]∈t.take i)) ?_ ?_ (k0:=0) (c0:=false) q9 qc
  · obtain ⟨b,g,rfl⟩:=this;exact g
  · rintro k b hk rfl;have j : k < t.length:=by omega
    refine .inl ⟨decide (t[i]∈t.take (k + 1)),?_,rfl⟩;simp only [q4j,dlt' hk,Qb,Kf j,Kf hi,qq];rw [Qd q9];have l : t[i]∈t.take (k + 1)↔t[i]∈t.take k∨t[i] = t[k]:=by rw [List.take_succ_eq_append_getElem j,List.mem_append,List.mem_singleton]
    have e : decide (t[i]∈t.take (k + 1)) = (decide (t[i]∈t.take k) || decide (t[k] = t[i])):=by
      by_cases g : t[i]∈t.take k
      · rw [Q2 g,Q2 (l.2 (.inl g))];rfl
      · rw [Q6 g,Bool.false_or];by_cases d : t[k] = t[i]
        · rw [Q2 d,Q2 (l.2 (.inr d.symm))]
        · rw [Q6 d,Q6 (fun h=>(l.1 h).elim g fun m=>d m.symm)]
    have n : ((t[k].X == t[i].X) && ((t[k].Y == t[i].Y) && true)) = decide (t[k] = t[i]):=by
      by_cases d : t[k] = t[i]
      · rw [d];simp
      · rw [Q6 d];generalize t[k] = a at d ⊢;generalize t[i] = b at d ⊢;obtain ⟨r,q⟩:=a;obtain ⟨b1,b2⟩:=b;simp only [qb.mk.injEq] at d;simp only [Bool.and_true,Bool.and_eq_false_iff,beq_eq_false_iff_ne,ne_eq];omega
    rw [e,n];cases decide (t[i]∈t.take k) <;> rfl
  · rintro b rfl;exact ⟨_,by simp only [q4j,dnl',Q4],rfl⟩
theorem qkv {l : List K5} {o : qb} (c : Int) : ∀ (n : Nat) {h : Nat} {p : qb} {own U : List qt} {pre : List qb},h < 4→PtB p→(∀ q∈Y9 l n h p,PtB q)→pre.length + n≤100→U.length≤pre.length→own.length≤U.length→
    (∃ a,pre = a ++ [p])→(∀ z,z∈pre↔z = o∨∃ s∈own,Yp s z)→Agree own U→(∀ s∈U,q5e s)→q44 own h p→
    ∃ b f,Zt l o n h p [] own = (0,b)∧loop (q3n (pre ++ Y9 l n h p,c)) ((pre.length : Int),U) = some f∧Agree b f∧(∀ s∈f,q5e s)∧(∀ s∈b,SegV s)∧b.length≤f.length∧f.length≤101∧(∀ s∈U,s∈f)∧(n≠0→({A:=p,B:=goV l p h} : qt)∈f)
  | 0,h,p,own,U,pre,hh,hp,hq,hl,hU,hown,hpre,u,ha,hu,ho=>by
    refine ⟨own,U,rfl,?_,ha,hu,ho.val,hown,q9,fun s hs=>hs,fun h=>absurd rfl h⟩
    refine K7 ?_
    simp only [q3n,Y9,List.append_nil,dnl',Q4]
  | n + 1,h,p,own,U,pre,hh,hp,hq,hl,hU,hown,⟨a,hpre⟩,u,ha,hu,ho=>by
    have k : PtB (goV l p h):=hq _ (by rw [Y9];simp)
    have hH:=q4h (l:=l) (p:=p) hh
    obtain ⟨o1,o2⟩:=qme hH ho hp k
    rw [← qk8] at o1 o2
    have ar:=qwv (own:=own) (go:=Kd l p h == h) (p:=p) (q:=goV l p h)
    have ak : 1≤pre.length:=by rw [hpre];simp
    have aa : pre.length < (pre ++ Y9 l (n + 1) h p).length:=by rw [List.length_append,qhj];omega
    have af : (pre ++ Y9 l (n + 1) h p).length≤1000:=by rw [List.length_append,qhj];omega
    have e1 : (pre ++ Y9 l (n + 1) h p)[pre.length] = goV l p h:=by simp [Y9]
    have e2 : idx (pre ++ Y9 l (n + 1) h p) (w64 ((pre.length : Int) - 1)) = some p:=by
      have : w64 ((pre.length : Int) - 1) = (a.length : Int):=by rw [hpre,Qd (by simp;rw [hpre] at hl;simp at hl;omega)];simp
      rw [this,hpre,Kf qc];simp
    have e3 : (pre ++ Y9 l (n + 1) h p).take pre.length = pre:=by simp
    have h2:=qtv aa U c af
    rw [e1,e3] at h2
    have g : q3n (pre ++ Y9 l (n + 1) h p,c) ((pre.length : Int),U) = cond (decide (goV l p h∈pre)) (some (.inr (U ++ [{A:=p,B:=goV l p h}]))) (some (.inl (((pre ++ [goV l p h]).length : Int),U ++ [{A:=p,B:=goV l p h}]))):=by
      simp only [q3n,Q2 (show (pre.length : Int) < ((pre ++ Y9 l (n + 1) h p).length : Int) by omega),Qb,e2,qq,Kf aa,e1];rw [Zu (by simp;omega),qq,h2,qq,Qd q9];rw [List.length_append,List.length_singleton]
      push_cast
      rfl
    have v : Agree (ownN own (Kd l p h == h) p (goV l p h)) (U ++ [{A:=p,B:=goV l p h}]):=by
      refine ⟨fun y x=>?_,fun x y=>?_⟩
      · rw [o2.row,Jt,ha.row]
      · rw [o2.col,Jt,ha.col]
    have w : ∀ s∈U ++ [({A:=p,B:=goV l p h} : qt)],q5e s:=by
      intro s hs;rcases List.mem_append.1 hs with d | d
      · exact hu s d
      · rw [List.mem_singleton] at d;subst d;exact ⟨Kd l p h,hH,rfl,hp,k⟩
    have m : (decide (goV l p h = o) || anyB [] (goV l p h) || anyB own (goV l p h)) = decide (goV l p h∈pre):=by
      have h3:=u (goV l p h);rw [← q7n] at h3;have h4 : anyB [] (goV l p h) = false:=rfl;rw [h4,Bool.or_false];by_cases t : goV l p h = o
      · rw [Q2 t,Q2 (h3.2 (.inl t))];rfl
      · rw [Q6 t,Bool.false_or];cases g2 : anyB own (goV l p h)
        · rw [Q6];intro g3;rcases h3.1 g3 with r | r
          · exact t r
          · rw [g2] at r;cases r
        · rw [Q2 (h3.2 (.inr g2))]
    rw [Zt,qr (q66.2 k),qu (show ¬ 400 < ([] : List qt).length + (ownN own (Kd l p h == h) p (goV l p h)).length by simp;omega),m]
    by_cases j : goV l p h∈pre
    · rw [Q2 j,Qb] at g
      rw [Q2 j,qr rfl]
      refine ⟨_,_,rfl,K7 g,v,w,o1.val,?_,?_,fun s hs=>List.mem_append_left _ hs,fun _=>qc⟩
      · simp;omega
      · simp;omega
    · rw [Q6 j,Q4] at g
      rw [Q6 j,qu qc]
      have hz : ∀ z,z∈pre ++ [goV l p h]↔z = o∨∃ s∈ownN own (Kd l p h == h) p (goV l p h),Yp s z:=by
        intro z;have ag : p∈pre:=by rw [hpre];simp
        rw [o2.on,List.mem_append,List.mem_singleton,u z];constructor
        · rintro ((d | d) | d)
          · exact .inl d
          · exact .inr (.inl d)
          · exact .inr (.inr (.inr d))
        · rintro (d | d | d | d)
          · exact .inl (.inl d)
          · exact .inl (.inr d)
          · exact .inl ((u z).1 (by rw [d];exact ag))
          · exact .inr d
      obtain ⟨b,f,t,g2,g3,r,g5,g6,g7,g8,_⟩:=qkv (l:=l) (o:=o) c n (h:=Kd l p h) (p:=goV l p h) (own:=ownN own (Kd l p h == h) p (goV l p h)) (U:=U ++ [{A:=p,B:=goV l p h}]) (pre:=pre ++ [goV l p h]) hH k (fun q u=>hq q (by rw [Y9];exact List.mem_cons_of_mem _ u)) (by simp;omega) (by simp;omega) (by simp;omega) ⟨pre,rfl⟩ hz v w o1
      refine ⟨b,f,t,?_,g3,r,g5,g6,g7,fun s hs=>g8 s (List.mem_append_left _ hs),fun _=>g8 _ qc⟩
      rw [Kc g]
      have : pre ++ Y9 l (n + 1) h p = (pre ++ [goV l p h]) ++ Y9 l n (Kd l p h) (goV l p h):=by rw [Y9,List.append_assoc];rfl
      rw [this]
      exact g2
end Go.Sh
namespace Go.Sh
open Go Go.Am
theorem q56 {s : qt} (h : q5e s) : SegV s∧(∀ y x,rowQ s y x→(s.A = {X:=x,Y:=y}∨s.B = {X:=x,Y:=y})∧(s.A = {X:=x + 1,Y:=y}∨s.B = {X:=x + 1,Y:=y}))∧∀ x y,colQ s x y→(s.A = {X:=x,Y:=y}∨s.B = {X:=x,Y:=y})∧(s.A = {X:=x,Y:=y + 1}∨s.B = {X:=x,Y:=y + 1}):=by
  obtain ⟨d,hd,a,f,hb⟩:=h;refine ⟨qgu hd ⟨1,q9,by rw [a];simp,by rw [a];simp⟩ f hb,fun y x b=>?_,fun x y b=>?_⟩
  · obtain ⟨⟨g,j⟩,⟨bx,c⟩⟩:=s;unfold rowQ at b;simp only [qb.mk.injEq] at a b ⊢;rcases q4b hd with e | e | e | e <;> rw [e] at a <;> simp only at a <;> omega
  · obtain ⟨⟨g,j⟩,⟨bx,c⟩⟩:=s;unfold colQ at b;simp only [qb.mk.injEq] at a b ⊢;rcases q4b hd with e | e | e | e <;> rw [e] at a <;> simp only at a <;> omega
theorem qdd {l : List qt} {y x : Int} : rowP l y x↔∃ s∈l,rowQ s y x:=q3q
theorem qc4 {l : List qt} {x y : Int} : colP l x y↔∃ s∈l,colQ s x y:=q3b
theorem q12w {U : List qt} (c : ∀ s∈U,q5e s) {p : qb} (h : Ky (rowP U) (colP U) p.X p.Y) : p∈U.flatMap fun s=>[s.A,s.B]:=by
  have key : ∀ s∈U,(s.A = p∨s.B = p)→p∈U.flatMap fun s=>[s.A,s.B]:=by
    rintro s hs (rfl | rfl)
    · exact List.mem_flatMap.2 ⟨s,hs,qc⟩
    · exact List.mem_flatMap.2 ⟨s,hs,qc⟩
  have hp : ({X:=p.X,Y:=p.Y} : qb) = p:=rfl;by_cases e : rowP U p.Y p.X
  · obtain ⟨s,hs,a⟩:=qdd.1 e;exact key s hs ((q56 (c s hs)).2.1 _ _ a).1
  by_cases w : rowP U p.Y (p.X - 1)
  · obtain ⟨s,hs,a⟩:=qdd.1 w;have:=((q56 (c s hs)).2.1 _ _ a).2;rw [Int.sub_add_cancel] at this;exact key s hs this
  by_cases n : colP U p.X p.Y
  · obtain ⟨s,hs,a⟩:=qc4.1 n;exact key s hs ((q56 (c s hs)).2.2 _ _ a).1
  by_cases t : colP U p.X (p.Y - 1)
  · obtain ⟨s,hs,a⟩:=qc4.1 t;have:=((q56 (c s hs)).2.2 _ _ a).2;rw [Int.sub_add_cancel] at this;exact key s hs this
  exfalso;unfold Ky at h;rw [qc9 (b:=false) (by simpa using e),qc9 (b:=false) (by simpa using n),qc9 (b:=false) (by simpa using w),qc9 (b:=false) (by simpa using t)] at h;cases h
theorem quf {U : List qt} (a : ∀ s∈U,q5e s) (k : U.length≤150) : ∃ n,Jm U = some (n,0)∧J5 (rowP U) (colP U) n:=by
  have d : ∀ s∈U,SegV s:=fun s hs=>(q56 (a s hs)).1;rcases qfq (l:=U) q9 d with ⟨n,e1,_,h⟩ | ⟨_,_,b,f,j,g⟩
  · exact ⟨n,e1,h⟩
  · have:=List.Nodup.length_le_of_subset f (l₂:=U.flatMap fun s=>[s.A,s.B]) fun p hp=>q12w a (g p hp);rw [q5k (c:=2) (fun _ _=>rfl)] at this;omega
theorem qfh {l : List K5} {w : Ku} {a : List Ku} {out s : List qt} (h : J2 l w out = (0,s)) : Zz l (w::a) out = Zz l a s:=by
  have b : Zt l w.At w.Steps.toNat w.Head.toNat w.At out [] = (0,s):=h;rw [Zz,b];rfl
theorem qi2 {a b : List qt} (h : Agree a b) : rowP a = rowP b∧colP a = colP b:=by
  constructor
  · funext y x;exact propext (by rw [qdd,qdd,h.row])
  · funext x y;exact propext (by rw [qc4,qc4,h.col])
open Classical in
theorem q13s (l : List K5) (w : Ku) (hH : 0≤w.Head) : qco l w = some true:=by
  unfold qco;rw [qyj,qq,qn1];by_cases hc : Jd l = 0∧PtB w.At∧w.Head≤3∧0≤w.Steps∧w.Steps≤60
  case neg=>
    have : ((cond (Jd l != 0) (some true) ((some (decide (PtB w.At))).bind fun aq=>some (!aq))).bind fun c5=>(cond c5 (some true) (some (decide (w.Head > 3)))).bind fun ae=>(cond ae (some true) (some (decide (w.Steps < 0)))).bind fun ar=>(cond ar (some true) (some (decide (w.Steps > 60))))) = some true:=by
      rw [neI];by_cases b : Jd l = 0
      case neg=>rw [Q6 b];rfl
      by_cases c : PtB w.At
      case neg=>rw [Q2 b,Q6 c];rfl
      by_cases t : w.Head > 3
      · rw [Q2 b,Q2 c,Q2 t];rfl
      by_cases h4 : w.Steps < 0
      · rw [Q2 b,Q2 c,Q6 t,Q2 h4];rfl
      rw [Q2 b,Q2 c,Q6 t,Q6 h4,Q2 (show w.Steps > 60 by
        have : ¬ (w.Head≤3∧0≤w.Steps∧w.Steps≤60):=fun h=>hc ⟨b,c,h⟩
        omega)]
      rfl
    simp only [← Option.bind_assoc] at this ⊢;rw [this,qq,Qb,qe3];rfl
  obtain ⟨b,c,t,h4,h5⟩:=hc;obtain ⟨f1,f2⟩:=qf3 b;obtain ⟨h,hh⟩ : ∃ h : Nat,w.Head = h:=⟨w.Head.toNat,q9⟩
  obtain ⟨N,hN⟩ : ∃ N : Nat,w.Steps = N:=⟨w.Steps.toNat,q9⟩
  have r : w.Head.toNat = h:=by omega
  have k : w.Steps.toNat = N:=by omega
  have e0 : ((0 : Int) != 0) = false:=rfl;have ag : ((16 : Int) != 0) = true:=rfl;have ht:=q12u b c (h:=h) (n:=N) q9 q9;rw [← hh,← hN] at ht;rw [b,e0,Q4,qq,Q2 c,qq,Bool.not_true,Q4,Q6 (show ¬ w.Head > 3 by omega),qq,Q4,Q6 (show ¬ w.Steps < 0 by omega),qq,Q4,Q6 (show ¬ w.Steps > 60 by omega),qq,Q4,ht];by_cases hq : ∀ q∈Y9 l N h w.At,PtB q
  case neg=>rw [qu hq,qq,ag,Qb,qe3];rfl
  obtain ⟨own,U,g1,g2,g3,g4,g5,g6,g7,_,g9⟩:=qkv (l:=l) (o:=w.At) 0 N (h:=h) (p:=w.At) (own:=[]) (U:=[]) (pre:=[w.At]) q9 c hq (by simp;omega) qc qc ⟨[],rfl⟩ (fun z=>qc) ⟨fun _ _=>Iff.rfl,fun _ _=>Iff.rfl⟩ (fun s hs=>by cases hs) (qmd _ _);have ah : loop (q3n (w.At::Y9 l N h w.At,0)) (1,[]) = some U:=g2;obtain ⟨n,m1,hn⟩:=quf g4 q9;obtain ⟨r1,r2⟩:=qi2 g3;have m2:=(ql8 (l:=U) (m:=own) q9 g5 hn r1 r2).1;have hw : q37 w:=⟨c,⟨hH,t⟩,h4,q9⟩
  have aj : Zz l [w] [] = (0,own):=by
    have : J2 l w [] = (0,own):=by unfold J2;rw [r,k];exact g1
    rw [qfh this];rfl
  obtain ⟨a,k1,k2,k3,k4⟩ : ∃ a,J2 l w own = (0,a)∧a.length≤400∧(∀ s∈a,SegV s)∧Agree a own:=by
    unfold J2;rw [r,k]
    cases N with
    | zero=>exact ⟨own ++ [],rfl,by simp;omega,by simpa using g5,by rw [List.append_nil];exact ⟨fun _ _=>Iff.rfl,fun _ _=>Iff.rfl⟩⟩
    | succ N=>
      have u:=g9 q9;have hu:=g4 _ u;have au : PtB (goV l w.At h):=hq _ (by rw [Y9];simp)
      have af : anyB own (goV l w.At h) = true:=by
        rw [← qi6,qi7 g5,r1,r2,← qi7 (l:=U) (fun s hs=>(q56 (g4 s hs)).1),qi6,q7n];exact ⟨_,u,by unfold Yp;simp only;omega⟩
      rw [Zt,qr (q66.2 au),qd7,qu (by simp;omega),af];simp only [Bool.or_true,Bool.true_or,if_true];refine ⟨_,rfl,by simp;omega,fun s hs=>?_,fun y x=>?_,fun x y=>?_⟩
      · rcases List.mem_append.1 hs with g | g
        · exact g5 s g
        · rw [List.mem_singleton] at g;subst g;exact (q56 hu).1
      · rw [Jt,g3.row];exact ⟨fun g=>g.elim id fun h7=>⟨_,u,h7⟩,.inl⟩
      · rw [Jt,g3.col];exact ⟨fun g=>g.elim id fun h7=>⟨_,u,h7⟩,.inl⟩
  have ak : Zz l [w,w] [] = (0,a):=by
    have : J2 l w [] = (0,own):=by unfold J2;rw [r,k];exact g1
    rw [qfh this,qfh k1];rfl
  obtain ⟨s1,s2⟩:=qi2 k4;have m3:=(ql8 (l:=U) (m:=a) k2 k3 hn (s1.trans r1) (s2.trans r2)).1
  have G1 : q19 l [w] = some (n,0):=by
    rw [(qke l [w] (fun v d=>by rw [List.mem_singleton] at d;subst d;exact hH)).1];unfold qcj;rw [qu (by rw [b];simp),qu qc,qr (fun v d=>by rw [List.mem_singleton] at d;subst d;exact hw),aj,qr rfl,m2]
  have G2 : q19 l [w,w] = some (n,0):=by
    have f : ∀ v∈[w,w],v = w:=by simp
    rw [(qke l [w,w] (fun v d=>by rw [f v d];exact hH)).1];unfold qcj;rw [qu (by rw [b];simp),qu qc,qr (fun v d=>by rw [f v d];exact hw),ak,qr rfl,m3]
  have bf:=hn.elen;have bn:=hn.nlen;have j:=qgt n n q9 q9;rw [qr hq];simp only [qq,e0,Q4,ah,G1,m1,G2,j,decide_true,Bool.not_true,Qb,qe3]
theorem q13w {n : Int} (h : (Lit.int .u8 n).wf = true) : 0≤n:=by
  simp [Lit.wf,IntKind.min,IntKind.max,IntKind.signed,IntKind.bits] at h;omega
end Go.Sh
