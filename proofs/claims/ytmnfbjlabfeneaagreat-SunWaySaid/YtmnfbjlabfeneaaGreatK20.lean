/- Rs6 Rs7 Rs8 Su14 Su15 Su16 Su17 Su18 Su19 Su20 -/
import Derived.Test.YtmnfbjlabfeneaaGreatK19
namespace Go.Sh
open Go Go.Am
end Go.Sh
namespace Go.Sh
open Go Go.Am
def grpR : List qk→List (Grp qu)
  | []=>[]
  | r::l=>match grpR l with
    | g::gs=>if g.lo = r.X0∧g.hi = r.X1 then ⟨g.lo,g.hi,ysp r::g.sec⟩::gs else ⟨r.X0,r.X1,[ysp r]⟩::g::gs
    | []=>[⟨r.X0,r.X1,[ysp r]⟩]
def grpB : List qh→List (Grp qk)
  | []=>[]
  | r::l=>match grpB l with
    | g::gs=>if g.lo = r.Lo.Z∧g.hi = r.Hi.Z then ⟨g.lo,g.hi,Jo r::g.sec⟩::gs else ⟨r.Lo.Z,r.Hi.Z,[Jo r]⟩::g::gs
    | []=>[⟨r.Lo.Z,r.Hi.Z,[Jo r]⟩]
theorem qlt : ∀ l : List qk,Y2 putR (grpR l) = l
  | []=>rfl
  | r::l=>by
    have a:=qlt l
    unfold grpR
    split
    · rename_i g d h
      rw [h] at a
      split
      · rename_i b
        obtain ⟨b,c⟩:=b
        rw [← a]
        simp only [Y2,List.flatMap_cons,List.map_cons,List.cons_append,b,c]
        congr 1
      · rw [← a];rfl
    · rename_i h
      rw [h] at a
      rw [← a];rfl
theorem qls : ∀ l : List qh,Y2 putB (grpB l) = l
  | []=>rfl
  | r::l=>by
    have a:=qls l
    unfold grpB
    split
    · rename_i g d h
      rw [h] at a
      split
      · rename_i b
        obtain ⟨b,c⟩:=b
        rw [← a]
        simp only [Y2,List.flatMap_cons,List.map_cons,List.cons_append,b,c]
        congr 1
      · rw [← a];rfl
    · rename_i h
      rw [h] at a
      rw [← a];rfl
instance {σ : Type} [DecidableEq σ] (gs : List (Grp σ)) : Decidable (CanG gs):=by unfold CanG;infer_instance
instance (s : List qu) : Decidable (Can s):=by unfold Can;infer_instance
def isR (l : List qk) : Prop:=CanG (grpR l)∧∀ g∈grpR l,Can g.sec
instance (l : List qk) : Decidable (isR l):=by unfold isR;infer_instance
def isB (l : List qh) : Prop:=CanG (grpB l)∧∀ g∈grpB l,isR g.sec
instance (l : List qh) : Decidable (isB l):=by unfold isB;infer_instance
theorem isR.can {l : List qk} (h : isR l) : CanR l:=⟨grpR l,(qlt l).symm,h.1,h.2⟩
theorem isB.can {l : List qh} (h : isB l) : CanB l:=⟨grpB l,(qls l).symm,h.1,fun g a=>(h.2 g a).can⟩
theorem q9o {l : List qh} (h : l.length≤400∧(∀ b∈l,vB b)∧isB l) : Kx l = 0:=qcy.2 ⟨h.1,h.2.1,h.2.2.can⟩
def bx (x y z u v w : Int) : qh:={Lo:=({X:=x,Y:=y,Z:=z} : qg),Hi:=({X:=u,Y:=v,Z:=w} : qg)}
theorem qs7 : Kx [] = 0:=q9o qr
instance (kind : Int) (a b : Prop) [Decidable a] [Decidable b] : Decidable (Y3 kind a b):=by unfold Y3;infer_instance
end Go.Sh
namespace Go.Sh
open Go Go.Am
end Go.Sh
namespace Go.Sh
open Go Go.Am
def qay (P : Int→Bool) (l : List qu) (y : Int) : List qu:=if P y = true then (match l.getLast? with | some s=>if s.Hi = y then l.dropLast ++ [{Lo:=s.Lo,Hi:=y + 1}] else l ++ [{Lo:=y,Hi:=y + 1}] | none=>l ++ [{Lo:=y,Hi:=y + 1}]) else l
def Zi (P : Int→Bool) (lo : Int) : Nat→List qu
  | 0=>[]
  | k + 1=>qay P (Zi P lo k) (lo + k)
structure qcl (P : Int→Bool) (lo y : Int) (l : List qu) : Prop where
  can : Can l
  bd : ∀ t∈l,lo≤t.Lo∧t.Hi≤y
  pts : ∀ v,has l v↔lo≤v∧v < y∧P v = true
  len : (l.length : Int)≤y - lo
theorem qjn {l : List qu} {t : qu} (h : Can l) (f : t.Lo < t.Hi) (hb : ∀ s∈l,s.Hi < t.Lo) : Can (l ++ [t]):=by
  refine ⟨fun s hs=>?_,List.pairwise_append.2 ⟨h.2,qe,fun a d b c=>?_⟩⟩
  · rcases List.mem_append.1 hs with hs | hs
    · exact h.1 s hs
    · simp only [List.mem_singleton] at hs;rw [hs];exact f
  · simp only [List.mem_singleton] at c;rw [c];exact hb a d
theorem qgq {a b : List qu} {v : Int} : has (a ++ b) v↔has a v∨has b v:=by
  unfold has;constructor
  · rintro ⟨t,c,h⟩;rcases List.mem_append.1 c with c | c
    · exact .inl ⟨t,c,h⟩
    · exact .inr ⟨t,c,h⟩
  · rintro (⟨t,c,h⟩ | ⟨t,c,h⟩)
    · exact ⟨t,List.mem_append.2 (.inl c),h⟩
    · exact ⟨t,List.mem_append.2 (.inr c),h⟩
theorem qgr {t : qu} {v : Int} : has [t] v↔t.Lo≤v∧v < t.Hi:=by unfold has;simp
theorem qz7 {P : Int→Bool} {lo y : Int} {l : List qu} (r : lo≤y) (h : qcl P lo y l) : qcl P lo (y + 1) (qay P l y):=by
  unfold qay;by_cases hp : P y = true
  · rw [qq hp]
    have new : (∀ t∈l,t.Hi≠y)→qcl P lo (y + 1) (l ++ [{Lo:=y,Hi:=y + 1}]):=by
      intro o;refine ⟨qjn h.can (by show y < y + 1;omega) fun s hs=>?_,fun t d=>?_,fun v=>?_,by have:=h.len;simp;omega⟩
      · have:=(h.bd s hs).2;have:=o s hs;show s.Hi < y;omega
      · rcases List.mem_append.1 d with d | d
        · have:=h.bd t d;omega
        · simp only [List.mem_singleton] at d;rw [d];exact ⟨r,Int.le_refl _⟩
      · rw [qgq,qgr,h.pts v];simp only;constructor
        · rintro (⟨a,b,c⟩ | ⟨a,b⟩)
          · exact ⟨a,q0,c⟩
          · obtain rfl : v = y:=by omega
            exact ⟨r,q0,hp⟩
        · rintro ⟨a,b,c⟩;by_cases j : v < y
          · exact .inl ⟨a,j,c⟩
          · exact .inr ⟨q0,q0⟩
    rcases List.eq_nil_or_concat l with rfl | ⟨L,s,rfl⟩
    · exact new qe
    rw [List.concat_eq_append] at h new ⊢;have k : (L ++ [s]).getLast? = some s:=by simp
    have f:=h.can;have m : ∀ t∈L,t.Hi < s.Lo:=fun t d=>(List.pairwise_append.1 f.2).2.2 t d s qe;have hs:=f.1 s qe;rw [k];simp only;by_cases q : s.Hi = y
    · rw [qq q,show (L ++ [s]).dropLast = L by simp];have p:=h.bd s qe;refine ⟨qjn ⟨fun t d=>f.1 t (by simp [d]),(List.pairwise_append.1 f.2).1⟩ (by show s.Lo < y + 1;omega) m,fun t d=>?_,fun v=>?_,by have:=h.len;simp at this ⊢;omega⟩
      · rcases List.mem_append.1 d with d | d
        · have:=h.bd t (by simp [d]);omega
        · simp only [List.mem_singleton] at d;rw [d];exact ⟨p.1,Int.le_refl _⟩
      · have j:=h.pts v;rw [qgq,qgr] at j;rw [qgq,qgr];simp only;constructor
        · rintro (g | ⟨a,b⟩)
          · have:=j.1 (.inl g);exact ⟨this.1,q0,this.2.2⟩
          · by_cases n : v < y
            · have:=j.1 (.inr ⟨a,q0⟩);exact ⟨this.1,q0,this.2.2⟩
            · obtain rfl : v = y:=by omega
              exact ⟨q0,q0,hp⟩
        · rintro ⟨a,b,c⟩;by_cases n : v < y
          · rcases j.2 ⟨a,n,c⟩ with g | ⟨u,x⟩
            · exact .inl g
            · exact .inr ⟨u,q0⟩
          · exact .inr ⟨q0,q0⟩
    · rw [qs q];refine new fun t d=>?_;rcases List.mem_append.1 d with d | d
      · have:=m t d;have:=h.bd s qe;omega
      · simp only [List.mem_singleton] at d;rw [d];exact q
  · rw [qs hp];refine ⟨h.can,fun t d=>by have:=h.bd t d;omega,fun v=>?_,by have:=h.len;omega⟩;rw [h.pts v];constructor
    · rintro ⟨a,b,c⟩;exact ⟨a,q0,c⟩
    · rintro ⟨a,b,c⟩;refine ⟨a,?_,c⟩;by_cases j : v = y
      · subst j;exact absurd c hp
      · omega
theorem qaz (P : Int→Bool) (lo : Int) : ∀ k : Nat,qcl P lo (lo + k) (Zi P lo k)
  | 0=>⟨qfv,by simp [Zi],fun v=>by
      constructor
      · rintro ⟨t,c,_⟩;cases c
      · rintro ⟨a,b,_⟩;omega,by simp [Zi]⟩
  | k + 1=>by
    have:=qz7 (y:=lo + k) q0 (qaz P lo k)
    rw [show lo + ((k + 1 : Nat) : Int) = lo + k + 1 by omega]
    exact this
def sqP (x y z : Int) : qg:=⟨2 * x + 1,2 * y + 1,2 * z⟩
def shB (l : List qh) (z : Int) (d : qg) (x y : Int) : Bool:=decide (blk l (sqP x y z) d)
theorem qtt {l : List qh} {d : qg} {z x y : Int} (hs : FitS l d) (f : -30≤z∧z≤30) (a : -510≤x∧x≤510) (c : -510≤y∧y≤510) :
    q4m ({p_:=({X:=w64 ((w64 (2 * x)) + 1),Y:=w64 ((w64 (2 * y)) + 1),Z:=w64 (2 * z)} : qg),d_:=d} : Yg) l = some (!shB l z d x y):=by
  rw [Q3 (x:=2 * x) q0,Q3 (x:=2 * y) q0,Q3 (x:=2 * z) q0,Q3 (x:=2 * x + 1) q0,Q3 (x:=2 * y + 1) q0];have b:=Ja hs.ck;have hd:=hs.dr;exact qgi (p:=sqP x y z) q0 hs.bx (by unfold dirV at hd;unfold Yy sqP;simp only;omega) hs.nz
theorem qz5 {l : List qh} {d : qg} {z x y : Int} (hs : FitS l d) (n : -30≤z∧z≤30) (h : -510≤x∧x≤510) (o : -510≤y∧y≤509) {A : Int × Int × List qk × List qu} (k : A.2.1 = x) {b : Int × Int} (g : y < b.2) {m : List qu} (f : m.length≤10000) (hb : ∀ t∈m,-510≤t.Hi∧t.Hi≤510) :
    q4k b A z d l (y,m) = some (.inl (y + 1,qay (shB l z d x) m y)):=by
  unfold q4k;rw [Qb g,k,qtt hs n h q0];simp only [qz,qj];rw [Q3 (x:=y + 1) q0];unfold qay
  cases hp : shB l z d x y with
  | false=>rfl
  | true=>
    simp only [Bool.not_true,qy,if_true];rcases List.eq_nil_or_concat m with rfl | ⟨L,s,rfl⟩
    · rw [Q7 qe];simp only [qy,qj];rw [Kj qe];rfl
    · rw [List.concat_eq_append] at f hb ⊢;have a : (L ++ [s]).length = L.length + 1:=by simp
      have hi : idx (L ++ [s]) (L.length : Int) = some s:=by rw [qdi];simp
      rw [Qb (by rw [a];omega),Q3 (x:=((L ++ [s]).length : Int) - 1) q0,show ((L ++ [s]).length : Int) - 1 = (L.length : Int) by rw [a];omega];simp only [qz,hi,qj,show (L ++ [s]).getLast? = some s by simp];have j:=hb s qe;by_cases c : s.Hi = y
      · rw [show (s.Hi == y) = true by simpa using c,qz,qq c,Q3 q0,c];simp only [qj];congr 4;rw [Int.toNat_natCast,List.set_append_right _ _ (Nat.le_refl _)];simp
      · rw [show (s.Hi == y) = false by simpa using c,qy,qs c,Kj (by simp at f ⊢;omega)];rfl
theorem qz4 {l : List qh} {d : qg} {z x : Int} (hs : FitS l d) (o : -30≤z∧z≤30) (j : -510≤x∧x≤510) {A : Int × Int × List qk × List qu} (n : A.2.1 = x) {a b : Int} (m : -510≤a) (h : b≤510) :
    loop (q4k (a,b) A z d l) (a,[]) = some (Zi (shB l z d x) a (b - a).toNat):=by
  have key:=Ze (f:=q4k (a,b) A z d l) (fun k=>(a + k,Zi (shB l z d x) a k)) (b - a).toNat (Zi (shB l z d x) a (b - a).toNat) (fun k q=>by
    have hi:=qaz (shB l z d x) a k;have g:=hi.len
    rw [qz5 hs o j q0 n (by show a + k < b;omega) q0 (fun t c=>by
      have r:=hi.bd t c;have p:=hi.can.1 t c
      omega)]
    rw [show a + ((k + 1 : Nat) : Int) = a + k + 1 by omega];rfl) (by
    unfold q4k
    rw [Q7 (by show ¬ a + ((b - a).toNat : Int) < b;omega)];rfl) (Nat.zero_le _)
  rw [show a + ((0 : Nat) : Int) = a by omega] at key;exact key
def encM (x : Int) (s : Mg qu qk) : Int × Int × List qk × List qu:=((s.done.length : Int),x,s.flat putR,s.sec)
theorem q10i {l : List qh} {d : qg} {z x : Int} (hs : FitS l d) (hz : -30≤z∧z≤30) (hx : -510≤x∧x≤509) {j p x0 x1 : Int} (ac : -510≤j) (u : p≤510) (aa : x < x1) (s : Mg qu qk) (hl : (s.flat putR).length + (Zi (shB l z d x) j (p - j).toNat).length≤1000000) (h1 : s.sec≠[]→s.hi = x) :
    q4j (x0,x1) (j,p) z d l (encM x s) = some (.inl (encM (x + 1) (addM putR s x (x + 1) (Zi (shB l z d x) j (p - j).toNat)))):=by
  unfold q4j;have t : (encM x s).2.1 = x:=rfl;have e2 : (encM x s).2.2.1 = s.flat putR:=rfl;have e3 : (encM x s).2.2.2 = s.sec:=rfl;have e0 : (encM x s).1 = (s.done.length : Int):=rfl;rw [qz4 hs hz q0 t ac u,t,e2,e3,e0,Qb aa];simp only [qz,qj];generalize Zi (shB l z d x) j (p - j).toNat = c at hl;have an : (s.flat putR).length = s.done.length + s.sec.length:=by simp [Mg.flat]
  rw [Q7 (by omega : ¬ x < x),Q3 (x:=x + 1) q0,qg6 s.sec c q0];by_cases b : c≠[]∧c = s.sec
  · obtain ⟨m,g⟩:=b;have ab:=h1 (by rw [← g];exact m)
    have r : ((c.length : Int) == 0) = false:=by
      have : c.length≠0:=fun h=>m (List.length_eq_zero_iff.1 h);simp;omega
    rw [r,Qb g.symm];simp only [qy,qj,Bool.not_true]
    have a:=q4x (fun v : qk=>({X0:=v.X0,Y0:=v.Y0,X1:=x + 1,Y1:=v.Y1} : qk)) s.done (s.sec.map (putR s.lo s.hi)) (by simp;omega) (q1o (encM x s)) (fun k o f ho=>by
      have h5 : (s.done ++ s.sec.map (putR s.lo s.hi)).length = (s.flat putR).length:=rfl;unfold q1o
      simp only [t,dlt f,qz,Qw f,qj,w64s f (show o.length≤1000000 by omega),Int.toNat_natCast,Q3 (show -9223372036854775808≤x + 1∧x + 1≤9223372036854775807 by omega)]) (fun o=>by unfold q1o;simp only [dnl,qy])
    have a : loop (q1o (encM x s)) ((s.done.length : Int),s.flat putR) = _:=a;rw [a];simp only [qj];rcases J8 putR s x (x + 1) c with ⟨_,_,_,n⟩ | ⟨h3,n⟩
    · rw [n];simp only [encM,Mg.flat,List.map_map];rw [g];rfl
    · exact absurd ⟨m,g,ab⟩ h3
  · have q:=q3p c (putR x x) (s.flat putR) (fun o=>(((s.flat putR).length : Int),o)) (q98 c (encM x s)) (fun k f o ho=>by
      unfold q98;simp only [t,dlt f,qz,Qw f,qj,w64s f (show c.length≤1000000 by omega)];rw [Kj (by simp;omega)]
      rfl) (fun o=>by unfold q98;simp only [dnl,qy,e2])
    have a:=q4x (fun v : qk=>({X0:=v.X0,Y0:=v.Y0,X1:=x + 1,Y1:=v.Y1} : qk)) (s.flat putR) (c.map (putR x x)) (by simp;omega) (q1o (encM x s)) (fun k o f ho=>by
      have h5 : (s.flat putR ++ c.map (putR x x)).length = (s.flat putR).length + c.length:=by simp
      unfold q1o
      simp only [t,dlt f,qz,Qw f,qj,w64s f (show o.length≤1000000 by omega),Int.toNat_natCast,Q3 (show -9223372036854775808≤x + 1∧x + 1≤9223372036854775807 by omega)]) (fun o=>by unfold q1o;simp only [dnl,qy])
    have n : addM putR s x (x + 1) c = ⟨s.flat putR,c,x,x + 1⟩:=by
      rcases J8 putR s x (x + 1) c with ⟨g1,g2,_,_⟩ | ⟨_,n⟩
      · exact absurd ⟨g1,g2⟩ b
      · exact n
    rw [n];by_cases y : c = []
    · rw [show ((c.length : Int) == 0) = true by rw [y];rfl];simp only [qz,qj,q,a];simp only [encM,Mg.flat,List.map_map];rfl
    · have ag : c.length≠0:=fun h=>y (List.length_eq_zero_iff.1 h);rw [show ((c.length : Int) == 0) = false by simp;omega,Q7 fun h=>b ⟨y,h.symm⟩];simp only [qy,qz,qj,Bool.not_false,q,a];simp only [encM,Mg.flat,List.map_map];rfl
def rngL (x0 : Int) : Nat→List Int
  | 0=>[x0]
  | n + 1=>x0::rngL (x0 + 1) n
theorem qp4 {l : List qh} {d : qg} {z : Int} (hs : FitS l d) (k : -30≤z∧z≤30) {a b x0 x1 : Int} (f : -510≤a) (c : b≤510) (h : x1≤510) : ∀ (n : Nat) (x : Int) (s : Mg qu qk),-510≤x→(x1 - x).toNat = n→(s.flat putR).length + n * 1020≤1000000→(x < x1→n≤900)→(s.sec≠[]→s.hi = x)→
    loop (q4j (x0,x1) (a,b) z d l) (encM x s) = some ((runM putR (fun x=>Zi (shB l z d x) a (b - a).toNat) s (rngL x n)).flat putR)
  | 0,x,s,h0,hn,_,_,_=>by
    have hd : q4j (x0,x1) (a,b) z d l (encM x s) = some (.inr (s.flat putR)):=by
      unfold q4j;rw [Q7 (by show ¬ x < x1;omega)];rfl
    rw [K7 hd];rfl
  | n + 1,x,s,h0,hn,hl,hm,h1=>by
    have hi:=qaz (shB l z d x) a (b - a).toNat;have j:=hi.len;have o:=qiz putR s x (x + 1) (Zi (shB l z d x) a (b - a).toNat);have g:=q10i (x0:=x0) (x1:=x1) hs k q0 f c (by omega : x < x1) s q0 h1;rw [Ka g];have m:=qp4 (x0:=x0) hs k f c h n (x + 1) (addM putR s x (x + 1) (Zi (shB l z d x) a (b - a).toNat)) q0 q0 q0 (by have:=hm q0;omega) (fun _=>qcm putR s x (x + 1) _);rw [m]
    cases n with
    | zero=>rfl
    | succ n=>rfl
end Go.Sh
namespace Go.Sh
open Go Go.Am
theorem qgx {l : AxL} (f : ∃ a∈l,a.2.2.2≠0) : (hitT l).isSome = true↔∃ t,0 < t∧Yq l t:=by
  obtain ⟨h,b⟩:=q6n f;have c:=q6v l;unfold hitT;rw [b];simp only;constructor
  · intro g;split at g
    · rename_i q;exact ⟨(loT l + h) / 2,by grind,(q6p b (by grind)).2 ⟨q.1,by grind,by grind⟩⟩
    · cases g
  · rintro ⟨t,d,g⟩;have:=(q6p b d).1 g;rw [qq ⟨this.1,by grind⟩];rfl
theorem qji {l : List qh} {p d : qg} (a : nzV d) : blk l p d↔∃ b∈l,∃ t,0 < t∧Yq (axB b p d) t:=by
  unfold blk;constructor
  · rintro ⟨b,hb,h⟩;rw [← q9z] at h;exact ⟨b,hb,(qgx (q57 a)).1 h⟩
  · rintro ⟨b,hb,h⟩;exact ⟨b,hb,by rw [← q9z];exact (qgx (q57 a)).2 h⟩
theorem U9 {a b : Int} : ((a * b : Int) : Rat) = (a : Rat) * (b : Rat):=Rat.intCast_mul a b
theorem geo1 {dX a H : Int} {t : Rat} (h : 0 < t) (j : 0 < a) (m : (a : Rat) * t < (H : Rat)) (d : 0≤dX) : 0≤(dX : Rat) * t∧(dX : Rat) * t < ((Int.tdiv (H * dX) a + 1 : Int) : Rat):=by
  have c : (0 : Rat)≤(dX : Rat):=by exact_mod_cast d
  have b : (0 : Rat) < (a : Rat):=by exact_mod_cast j
  have l : 0 < H:=by
    have : (0 : Rat) < (H : Rat):=by have:=Rat.mul_pos b h;grind
    exact_mod_cast this
  refine ⟨Rat.mul_nonneg c (Rat.le_of_lt h),?_⟩;rw [Int.tdiv_eq_ediv_of_nonneg (Int.mul_nonneg q0 d)];have f:=Int.lt_ediv_add_one_mul_self (H * dX) j;generalize (H * dX) / a = w at f;have k : ((H * dX : Int) : Rat) < (((w + 1) * a : Int) : Rat):=J0.2 f;rw [U9,U9] at k;have o : (dX : Rat) * ((a : Rat) * t)≤(dX : Rat) * (H : Rat):=Rat.mul_le_mul_of_nonneg_left (Rat.le_of_lt m) c;refine Rat.not_le.1 fun g=>?_;have n : (a : Rat) * ((w + 1 : Int) : Rat)≤(a : Rat) * ((dX : Rat) * t):=Rat.mul_le_mul_of_nonneg_left g (Rat.le_of_lt b);grind
theorem geo {lo hi x dX c H : Int} {t : Rat} (j : 0 < t) (k : 0 < c) (g : (c : Rat) * t < (H : Rat)) (h : inAx lo hi (2 * x + 1) dX t) : min lo (lo - Int.tdiv (H * dX) c) - 1≤x∧x≤max hi (hi - Int.tdiv (H * dX) c):=by
  obtain ⟨n,m⟩:=h;by_cases l : 0≤dX
  · obtain ⟨f,d⟩:=geo1 j k g l;generalize Int.tdiv (H * dX) c = w at d;have a : ((2 * lo - (2 * x + 1) : Int) : Rat) < ((2 * (w + 1) : Int) : Rat):=by rw [U9,show ((2 : Int) : Rat) = 2 from rfl];grind
    have b : ((0 : Int) : Rat) < ((2 * hi - (2 * x + 1) : Int) : Rat):=by rw [show ((0 : Int) : Rat) = 0 from rfl];grind
    rw [J0] at a b;omega
  · obtain ⟨f,d⟩:=geo1 j k g (dX:=-dX) q0;rw [show H * -dX = -(H * dX) by rw [Int.mul_neg],Int.neg_tdiv] at d;rw [Rat.intCast_neg] at f d;generalize Int.tdiv (H * dX) c = w at d;have a : ((2 * lo - (2 * x + 1) : Int) : Rat) < ((0 : Int) : Rat)∨((2 * lo - (2 * x + 1) : Int) : Rat)≤((0 : Int) : Rat):=.inr (by rw [show ((0 : Int) : Rat) = 0 from rfl];grind);have b : ((-(2 * (-w + 1)) : Int) : Rat) < ((2 * hi - (2 * x + 1) : Int) : Rat):=by rw [Rat.intCast_neg,U9,show ((2 : Int) : Rat) = 2 from rfl];grind
    rw [J0,q3m] at a;rw [J0] at b;omega
theorem far {lo hi x dX c H : Int} {t : Rat} (g : 0 < t) (s : 0 < c) (p : (c : Rat) * t < (H : Rat)) (h : inAx lo hi (2 * x + 1) dX t) (n : -30≤lo∧hi≤30) (hd : -8≤dX∧dX≤8) (d : H≤60) : -510≤x∧x≤509:=by
  obtain ⟨r,o⟩:=h;have f : (1 : Rat)≤(c : Rat):=by exact_mod_cast (by omega : (1 : Int)≤c)
  have j : t < 60:=by
    have : (1 : Rat) * t≤(c : Rat) * t:=Rat.mul_le_mul_of_nonneg_right f (Rat.le_of_lt g);have : (H : Rat)≤60:=by exact_mod_cast d
    grind
  have l : (-8 : Rat)≤(dX : Rat):=by have:=q3m.2 hd.1;rw [show ((-8 : Int) : Rat) = -8 from rfl] at this;exact this
  have k : (dX : Rat)≤8:=by have:=q3m.2 hd.2;rw [show ((8 : Int) : Rat) = 8 from rfl] at this;exact this
  have q : (dX : Rat) * t≤8 * t:=Rat.mul_le_mul_of_nonneg_right k (Rat.le_of_lt g);have m : (-8 : Rat) * t≤(dX : Rat) * t:=Rat.mul_le_mul_of_nonneg_right l (Rat.le_of_lt g);have a : ((2 * lo - (2 * x + 1) : Int) : Rat) < ((960 : Int) : Rat):=by rw [show ((960 : Int) : Rat) = 960 from rfl];grind
  have b : ((-960 : Int) : Rat) < ((2 * hi - (2 * x + 1) : Int) : Rat):=by rw [show ((-960 : Int) : Rat) = -960 from rfl];grind
  rw [J0] at a b;omega
def shX (lo hi by_ H up : Int) : Int × Int:=(max (min lo (lo - Int.tdiv (H * by_) up) - 2) (-510),min (max hi (hi - Int.tdiv (H * by_) up) + 2) 510)
theorem qm2 : ∀ (l : List qh) (s : qh),((l.foldl Ke s).Lo.X≤s.Lo.X∧s.Hi.X≤(l.foldl Ke s).Hi.X∧(l.foldl Ke s).Lo.Y≤s.Lo.Y∧s.Hi.Y≤(l.foldl Ke s).Hi.Y∧s.Hi.Z≤(l.foldl Ke s).Hi.Z)∧(∀ b∈l,(l.foldl Ke s).Lo.X≤b.Lo.X∧b.Hi.X≤(l.foldl Ke s).Hi.X∧(l.foldl Ke s).Lo.Y≤b.Lo.Y∧b.Hi.Y≤(l.foldl Ke s).Hi.Y∧b.Hi.Z≤(l.foldl Ke s).Hi.Z)∧(K9 s→(∀ b∈l,K9 b)→K9 (l.foldl Ke s))
  | [],s=>⟨qe,qe,fun h _=>h⟩
  | b::l,s=>by
    obtain ⟨j,d,f⟩:=qm2 l (Ke s b)
    have g : (Ke s b).Lo.X = min s.Lo.X b.Lo.X∧(Ke s b).Hi.X = max s.Hi.X b.Hi.X∧(Ke s b).Lo.Y = min s.Lo.Y b.Lo.Y∧(Ke s b).Hi.Y = max s.Hi.Y b.Hi.Y∧(Ke s b).Hi.Z = max s.Hi.Z b.Hi.Z:=⟨rfl,rfl,rfl,rfl,rfl⟩
    rw [List.foldl_cons]
    refine ⟨q0,fun c a=>?_,fun hs hb=>f ?_ fun c a=>hb c (by simp [a])⟩
    · rcases List.mem_cons.1 a with rfl | a
      · omega
      · exact d c a
    · have:=hb b qe
      unfold K9 at *
      unfold Ke
      simp only
      omega
theorem qm1 {l : List qh} (a : l≠[]) (hb : ∀ b∈l,K9 b) : K9 (Qz l)∧∀ b∈l,(Qz l).Lo.X≤b.Lo.X∧b.Hi.X≤(Qz l).Hi.X∧(Qz l).Lo.Y≤b.Lo.Y∧b.Hi.Y≤(Qz l).Hi.Y∧b.Hi.Z≤(Qz l).Hi.Z:=by
  cases l with
  | nil=>exact absurd rfl a
  | cons b l=>
    obtain ⟨_,d,c⟩:=qm2 (b::l) b;exact ⟨c (hb b qe) hb,d⟩
theorem qm6 {lo hi c f p d : Int} {t : Rat} (h : inAx lo hi p d t) (j : c≤lo) (g : hi≤f) : inAx c f p d t:=by
  obtain ⟨a,b⟩:=h;have c1 : ((2 * c - p : Int) : Rat)≤((2 * lo - p : Int) : Rat):=q3m.2 q0;have c2 : ((2 * hi - p : Int) : Rat)≤((2 * f - p : Int) : Rat):=q3m.2 q0;constructor <;> grind
theorem qm5 {lo hi z c : Int} {t : Rat} (h : inAx lo hi (2 * z) c t) : (c : Rat) * t < ((hi - z : Int) : Rat)∧((lo - z : Int) : Rat) < (c : Rat) * t:=by
  obtain ⟨a,b⟩:=h;have d : ((2 * hi - 2 * z : Int) : Rat) = 2 * ((hi - z : Int) : Rat):=by rw [show 2 * hi - 2 * z = 2 * (hi - z) by omega,U9];rfl
  have f : ((2 * lo - 2 * z : Int) : Rat) = 2 * ((lo - z : Int) : Rat):=by rw [show 2 * lo - 2 * z = 2 * (lo - z) by omega,U9];rfl
  rw [d] at b;rw [f] at a;constructor <;> grind
theorem qp3 {l : List qh} {d : qg} {z x y : Int} (hs : FitS l d) (hz : -30≤z∧z≤30) (hd : 0 < d.Z) (h : blk l (sqP x y z) d) : l≠[]∧z < (Qz l).Hi.Z∧
    ((shX (Qz l).Lo.X (Qz l).Hi.X d.X ((Qz l).Hi.Z - z) d.Z).1≤x∧x < (shX (Qz l).Lo.X (Qz l).Hi.X d.X ((Qz l).Hi.Z - z) d.Z).2)∧
    (shX (Qz l).Lo.Y (Qz l).Hi.Y d.Y ((Qz l).Hi.Z - z) d.Z).1≤y∧y < (shX (Qz l).Lo.Y (Qz l).Hi.Y d.Y ((Qz l).Hi.Z - z) d.Z).2:=by
  obtain ⟨b,hb,t,j,k⟩:=(qji hs.nz).1 h;have g : l≠[]:=by rintro rfl;cases hb
  obtain ⟨n,m⟩:=qm1 g hs.bx;have a:=m b hb;rw [q53] at k;obtain ⟨i1,s,i3⟩:=k;have f:=hs.dr;unfold dirV at f
  have c : (d.Z : Rat) * t < (((Qz l).Hi.Z - z : Int) : Rat):=by
    have v:=(qm5 (z:=z) i3).1;have p : ((b.Hi.Z - z : Int) : Rat)≤(((Qz l).Hi.Z - z : Int) : Rat):=q3m.2 q0;grind
  have o : z < (Qz l).Hi.Z:=by
    have u : (0 : Rat) < (d.Z : Rat):=by exact_mod_cast hd
    have v:=Rat.mul_pos u j;have p : ((0 : Int) : Rat) < (((Qz l).Hi.Z - z : Int) : Rat):=by rw [show ((0 : Int) : Rat) = 0 from rfl];grind
    rw [J0] at p;omega
  unfold K9 at n;have q:=qm6 i1 a.1 a.2.1;have r:=qm6 s a.2.2.1 a.2.2.2.1;have gx:=geo j hd c (x:=x) q;have gy:=geo j hd c (x:=y) r;have fx:=far j hd c (x:=x) q q0 f.1 q0;have fy:=far j hd c (x:=y) r q0 f.2.1 q0;unfold shX;simp only;refine ⟨g,o,?_,?_⟩ <;> omega
theorem qor : ∀ (n : Nat) (x : Int),∀ y∈rngL x n,x≤y
  | 0,x,y,h=>by simp only [rngL,List.mem_singleton] at h;omega
  | n + 1,x,y,h=>by
    rcases List.mem_cons.1 h with h | h
    · omega
    · have:=qor n (x + 1) y h;omega
theorem qos : ∀ (n : Nat) (x : Int),(rngL x n).Pairwise (· < ·)
  | 0,x=>by simp [rngL]
  | n + 1,x=>List.pairwise_cons.2 ⟨fun y a=>by have:=qor n (x + 1) y a;omega,qos n (x + 1)⟩
theorem qoy (sec : Int→List qu) : ∀ (n : Nat) (x0 x : Int),secC sec (rngL x0 n) x = if x0≤x∧x < x0 + n then sec x else []
  | 0,x0,x=>by rw [qs q0];rfl
  | 1,x0,x=>by
    show (if x0≤x∧x < x0 + 1 then sec x0 else secC sec [x0 + 1] x) = _
    by_cases h : x0≤x∧x < x0 + 1
    · obtain rfl : x = x0:=by omega
      rw [qq h,qq q0]
    · rw [qs h,qs q0];rfl
  | n + 2,x0,x=>by
    have a:=qoy sec (n + 1) (x0 + 1) x
    show (if x0≤x∧x < x0 + 1 then sec x0 else secC sec (rngL (x0 + 1) (n + 1)) x) = _
    by_cases h : x0≤x∧x < x0 + 1
    · obtain rfl : x = x0:=by omega
      rw [qq h,qq q0]
    · rw [qs h,a]
      by_cases g : x0 + 1≤x∧x < x0 + 1 + ((n + 1 : Nat) : Int)
      · rw [qq g,qq q0]
      · rw [qs g,qs q0]
def q80 (P : Int→Int→Bool) (x0 : Int) (n : Nat) (y0 : Int) (m : Nat) : List qk:=(runM putR (fun x=>Zi (P x) y0 m) K0 (rngL x0 n)).flat putR
theorem q10h (P : Int→Int→Bool) (x0 : Int) (n : Nat) (f : Int) (m : Nat) : CanR (q80 P x0 n f m)∧∀ x y,hasR (q80 P x0 n f m) x y↔(x0≤x∧x < x0 + n)∧(f≤y∧y < f + m)∧P x y = true:=by
  have z : ∃ d,rngL x0 n = x0::d:=by cases n with | zero=>exact ⟨[],rfl⟩ | succ n=>exact ⟨_,rfl⟩
  obtain ⟨d,v⟩:=z;have o:=qos n x0;have h:=qoy (fun x=>Zi (P x) f m) n x0;unfold q80;rw [v] at o h ⊢;obtain ⟨q,e1,p,e3⟩:=qi5 putR (fun x=>Zi (P x) f m) d x0 (K0 : Mg qu qk) [] o ⟨rfl,⟨by simp [curG,K0],by simp [curG,K0]⟩,by simp [curG,K0],qe⟩
  have r : ∀ x,secG q x = if x0≤x∧x < x0 + n then Zi (P x) f m else []:=by
    intro x;rw [e3 x];by_cases j : x < x0
    · rw [qq j,qs q0];rfl
    · rw [qs j];exact h x
  rw [e1]
  have k : ∀ x,Can (secG q x):=fun x=>by
    rw [r x];split
    · exact (qaz (P x) f m).can
    · exact qfv
  refine ⟨⟨q,rfl,p,fun g l=>?_⟩,fun x y=>?_⟩
  · have u:=p.1 g l;rw [← qeq p g l g.lo (Int.le_refl _) u.1];exact k _
  · rw [← Zd,q6g p x,r x];by_cases j : x0≤x∧x < x0 + n
    · rw [qq j,(qaz (P x) f m).pts y];constructor
      · rintro ⟨a,b,c⟩;exact ⟨j,⟨a,b⟩,c⟩
      · rintro ⟨_,⟨a,b⟩,c⟩;exact ⟨a,b,c⟩
    · rw [qs j];constructor
      · rintro ⟨t,s,_⟩;cases s
      · rintro ⟨a,_⟩;exact absurd a j
noncomputable def shL (l : List qh) (z : Int) (d : qg) : List qk:=if l = []∨(Qz l).Hi.Z≤z then [] else
  q80 (shB l z d) (shX (Qz l).Lo.X (Qz l).Hi.X d.X ((Qz l).Hi.Z - z) d.Z).1 ((shX (Qz l).Lo.X (Qz l).Hi.X d.X ((Qz l).Hi.Z - z) d.Z).2 - (shX (Qz l).Lo.X (Qz l).Hi.X d.X ((Qz l).Hi.Z - z) d.Z).1).toNat
    (shX (Qz l).Lo.Y (Qz l).Hi.Y d.Y ((Qz l).Hi.Z - z) d.Z).1 ((shX (Qz l).Lo.Y (Qz l).Hi.Y d.Y ((Qz l).Hi.Z - z) d.Z).2 - (shX (Qz l).Lo.Y (Qz l).Hi.Y d.Y ((Qz l).Hi.Z - z) d.Z).1).toNat
theorem q10e {l : List qh} {d : qg} {z : Int} (hs : FitS l d) (b : -30≤z∧z≤30) (hd : 0 < d.Z) : CanR (shL l z d)∧∀ x y,hasR (shL l z d) x y↔blk l (sqP x y z) d:=by
  unfold shL;by_cases a : l = []∨(Qz l).Hi.Z≤z
  · rw [qq a];refine ⟨.nil,fun x y=>⟨fun h=>absurd h (q6l x y),fun h=>?_⟩⟩;have:=qp3 hs b hd h;rcases a with a | a
    · exact absurd a this.1
    · omega
  · rw [qs a];obtain ⟨f,c⟩:=q10h (shB l z d) (shX (Qz l).Lo.X (Qz l).Hi.X d.X ((Qz l).Hi.Z - z) d.Z).1 ((shX (Qz l).Lo.X (Qz l).Hi.X d.X ((Qz l).Hi.Z - z) d.Z).2 - (shX (Qz l).Lo.X (Qz l).Hi.X d.X ((Qz l).Hi.Z - z) d.Z).1).toNat (shX (Qz l).Lo.Y (Qz l).Hi.Y d.Y ((Qz l).Hi.Z - z) d.Z).1 ((shX (Qz l).Lo.Y (Qz l).Hi.Y d.Y ((Qz l).Hi.Z - z) d.Z).2 - (shX (Qz l).Lo.Y (Qz l).Hi.Y d.Y ((Qz l).Hi.Z - z) d.Z).1).toNat;refine ⟨f,fun x y=>?_⟩;rw [c x y];unfold shB;constructor
    · rintro ⟨_,_,h⟩;exact of_decide_eq_true h
    · intro h;have:=qp3 hs b hd h;exact ⟨q0,q0,Qb h⟩
noncomputable def Ub (l : List qh) (z : Int) (d : qg) : List qk × Int:=if chkF l d≠0 then ([],chkF l d) else if z < -30∨30 < z∨d.Z≤0 then ([],2) else if 400 < (shL l z d).length then ([],4) else (shL l z d,0)
theorem qp0 {lo hi by_ z : Int} {h : qh} {d : qg} (c : -30≤lo∧lo≤30) (a : -30≤hi∧hi≤30) (hb : -8≤by_∧by_≤8) (g : -30≤z∧z≤30) (b : -30≤h.Hi.Z∧h.Hi.Z≤30) (hd : 0 < d.Z∧d.Z≤8) : q97 lo hi by_ h z d = some (shX lo hi by_ (h.Hi.Z - z) d.Z):=by
  have p:=mulb (x:=h.Hi.Z - z) (A:=60) (y:=by_) (B:=8) q0 hb
  have q : -480≤Int.tdiv ((h.Hi.Z - z) * by_) d.Z∧Int.tdiv ((h.Hi.Z - z) * by_) d.Z≤480:=by
    have:=Int.natAbs_tdiv ((h.Hi.Z - z) * by_) d.Z;have f : ((h.Hi.Z - z) * by_).natAbs.div d.Z.natAbs≤((h.Hi.Z - z) * by_).natAbs:=Nat.div_le_self _ _;omega
  unfold q97 shX;rw [Q3 (x:=h.Hi.Z - z) q0,Q3 (x:=(h.Hi.Z - z) * by_) q0];unfold J2;rw [qs q0,qj];rw [Q3 (x:=Int.tdiv ((h.Hi.Z - z) * by_) d.Z) q0];generalize Int.tdiv ((h.Hi.Z - z) * by_) d.Z = w at q;rw [Q3 (x:=lo - w) q0,Q3 (x:=hi - w) q0,Q3 (x:=min lo (lo - w) - 2) q0,Q3 (x:=max hi (hi - w) + 2) q0]
theorem qp2 {lo hi by_ H up : Int} (c : -30≤lo∧lo≤30) (b : -30≤hi∧hi≤30) (hb : -8≤by_∧by_≤8) (a : -60≤H∧H≤60) : -510≤(shX lo hi by_ H up).1∧(shX lo hi by_ H up).2≤510∧(shX lo hi by_ H up).2 - (shX lo hi by_ H up).1≤544:=by
  have p:=mulb a hb
  have q : -480≤Int.tdiv (H * by_) up∧Int.tdiv (H * by_) up≤480:=by
    have:=Int.natAbs_tdiv (H * by_) up;have d : (H * by_).natAbs.div up.natAbs≤(H * by_).natAbs:=Nat.div_le_self _ _;omega
  unfold shX;generalize Int.tdiv (H * by_) up = w at q;simp only;omega
theorem qu9 (l : List qh) (h : Kx l = 0) : (l = []∧hull l = (qfd,6))∨(l≠[]∧hull l = (Qz l,0)):=by
  unfold hull;rw [qs (by simpa using h)];by_cases a : l = []
  · exact .inl ⟨a,qq a⟩
  · exact .inr ⟨a,qs a⟩
theorem q99 (l : List qh) (z : Int) (d : qg) : Ue l z d = some (Ub l z d):=by
  unfold Ue Ub;rw [qcc,qj];by_cases k : chkF l d = 0
  · have hs:=Ug k;rw [k];simp only [show ((0 : Int) != 0) = false from rfl,qy,ne_eq,not_true_eq_false,if_false];by_cases s : z < -30∨30 < z∨d.Z≤0
    · have : (((cond (decide (z < (-30))) (some true) (some (decide (z > 30)))).bind fun c3=>(cond c3 (some true) (some (decide (d.Z≤0)))).bind fun u=>some u) : Option Bool) = some true:=by
        by_cases a : z < -30
        · rw [Qb a];rfl
        · rw [Q7 a];by_cases b : z > 30
          · rw [Qb b];rfl
          · rw [Q7 b,Qb q0];rfl
      rw [qq s];by_cases a : z < -30
      · rw [Qb a];rfl
      · rw [Q7 a];by_cases b : z > 30
        · rw [Qb b];rfl
        · rw [Q7 b,Qb q0];rfl
    · rw [qs s,Q7 q0,Q7 q0,Q7 q0,q13k];simp only [qy,qj];have f : -30≤z∧z≤30:=by omega
      have c:=hs.dr;unfold dirV at c;rcases qu9 l hs.ck with ⟨g,e⟩ | ⟨g,e⟩
      · have : shL l z d = []:=by unfold shL;rw [qq (.inl g)]
        rw [e,this];rfl
      · rw [e];simp only [show ((0 : Int) != 0) = false from rfl,qy,qj];by_cases j : (Qz l).Hi.Z≤z
        · have : shL l z d = []:=by unfold shL;rw [qq (.inr j)]
          rw [Qb j,this];rfl
        · rw [Q7 j,qy];have p:=(qm1 g hs.bx).1;unfold K9 at p;rw [qp0 q0 q0 c.1 f q0 q0,qj,qp0 q0 q0 c.2.1 f q0 q0,qj];have x : shL l z d = _:=qs (show ¬ (l = []∨(Qz l).Hi.Z≤z) by rintro (h | h);exact g h;exact j h);have o:=qp2 (lo:=(Qz l).Lo.X) (hi:=(Qz l).Hi.X) (by_:=d.X) (H:=(Qz l).Hi.Z - z) (up:=d.Z) q0 q0 c.1 q0;have m:=qp2 (lo:=(Qz l).Lo.Y) (hi:=(Qz l).Hi.Y) (by_:=d.Y) (H:=(Qz l).Hi.Z - z) (up:=d.Z) q0 q0 c.2.1 q0;rw [x];generalize shX (Qz l).Lo.X (Qz l).Hi.X d.X ((Qz l).Hi.Z - z) d.Z = RX at o;generalize shX (Qz l).Lo.Y (Qz l).Hi.Y d.Y ((Qz l).Hi.Z - z) d.Z = RY at m;obtain ⟨x0,x1⟩:=RX;obtain ⟨n,r⟩:=RY;simp only at o m ⊢;have v : (0,x0,([] : List qk),([] : List qu)) = encM x0 (K0 : Mg qu qk):=rfl;have q : ((K0 : Mg qu qk).flat putR).length = 0:=rfl;rw [show ((0 : Int),x0,([] : List qk),([] : List qu)) = encM x0 (K0 : Mg qu qk) from rfl,qp4 (x0:=x0) (x1:=x1) hs f m.1 m.2.1 o.2.1 (x1 - x0).toNat x0 K0 o.1 rfl (by rw [q];omega) q0 (fun h=>absurd rfl h)];simp only [qj];show cond (decide (((q80 (shB l z d) x0 (x1 - x0).toNat n (r - n).toNat).length : Int) > 400)) _ _ = _;by_cases t : 400 < (q80 (shB l z d) x0 (x1 - x0).toNat n (r - n).toNat).length
          · rw [Qb q0,qq t];rfl
          · rw [Q7 q0,qs t];rfl
  · rw [show (chkF l d != 0) = true by simpa using k,qz,qq k]
end Go.Sh
namespace Go.Sh
open Go Go.Am
theorem qke {p q : List qk} (h : p.length + q.length≤100000) : J3 (xsOf p ++ xsOf q) = some (Qu (xsOf p ++ xsOf q))∧Yu (xsOf p ++ xsOf q) (Qu (xsOf p ++ xsOf q))∧(Qu (xsOf p ++ xsOf q)).length≤2 * (p.length + q.length):=by
  have f:=J6 p;have d:=J6 q;obtain ⟨a,b,c⟩:=U4 (l:=xsOf p ++ xsOf q) (by simp;omega);exact ⟨a,b,by simp at c;omega⟩
theorem qg4 {p q : List qk} (h : p.length + q.length≤100000) : J3 (ysOf p ++ ysOf q) = some (Qu (ysOf p ++ ysOf q))∧Yu (ysOf p ++ ysOf q) (Qu (ysOf p ++ ysOf q))∧(Qu (ysOf p ++ ysOf q)).length≤2 * (p.length + q.length):=by
  have f:=q1t p;have d:=q1t q;obtain ⟨a,b,c⟩:=U4 (l:=ysOf p ++ ysOf q) (by simp;omega);exact ⟨a,b,by simp at c;omega⟩
theorem qxf {p q : List qk} (h : p.length + q.length≤100000) : q5e p q = some (Qu (xsOf p ++ xsOf q)):=by
  have c : loop (Uo p) (0,[]) = some (xsOf p):=by
    have:=Zq p q0 (fun r=>[r.X0,r.X1]) [] (fun o=>o) (Uo p) (fun k a o b=>by
      have d : o.length = 2 * k:=by rw [b,List.nil_append];have:=J6 (p.take k);rw [List.length_take,Nat.min_eq_left q0] at this;exact this
      simp only [Uo,dlt a,qz,Qw a,qj,w64s a q0];rw [Kj (by simp;omega)]
      rfl) (fun o=>by simp only [Uo,dnl,qy])
    rw [List.nil_append] at this;exact this
  have f : loop (Up q) (0,xsOf p) = some (xsOf p ++ xsOf q):=by
    have hp:=J6 p
    exact Zq q q0 (fun r=>[r.X0,r.X1]) (xsOf p) (fun o=>o) (Up q) (fun k a o b=>by
      have d : o.length = 2 * p.length + 2 * k:=by
        rw [b,List.length_append,hp];have:=J6 (q.take k);rw [List.length_take,Nat.min_eq_left q0] at this;unfold xsOf at this;omega
      simp only [Up,dlt a,qz,Qw a,qj,w64s a q0];rw [Kj (by simp;omega)]
      rfl) (fun o=>by simp only [Up,dnl,qy])
  unfold q5e;simp only [c,f,qj,(qke h).1]
theorem qxi {p q : List qk} (h : p.length + q.length≤100000) : q5f p q = some (Qu (ysOf p ++ ysOf q)):=by
  have c : loop (Uq p) (0,[]) = some (ysOf p):=by
    have:=Zq p q0 (fun r=>[r.Y0,r.Y1]) [] (fun o=>o) (Uq p) (fun k a o b=>by
      have d : o.length = 2 * k:=by rw [b,List.nil_append];have:=q1t (p.take k);rw [List.length_take,Nat.min_eq_left q0] at this;exact this
      simp only [Uq,dlt a,qz,Qw a,qj,w64s a q0];rw [Kj (by simp;omega)]
      rfl) (fun o=>by simp only [Uq,dnl,qy])
    rw [List.nil_append] at this;exact this
  have f : loop (Ur q) (0,ysOf p) = some (ysOf p ++ ysOf q):=by
    have hp:=q1t p
    exact Zq q q0 (fun r=>[r.Y0,r.Y1]) (ysOf p) (fun o=>o) (Ur q) (fun k a o b=>by
      have d : o.length = 2 * p.length + 2 * k:=by
        rw [b,List.length_append,hp];have:=q1t (q.take k);rw [List.length_take,Nat.min_eq_left q0] at this;unfold ysOf at this;omega
      simp only [Ur,dlt a,qz,Qw a,qj,w64s a q0];rw [Kj (by simp;omega)]
      rfl) (fun o=>by simp only [Ur,dnl,qy])
  unfold q5f;simp only [c,f,qj,(qg4 h).1]
open Classical in
theorem qri (kind : Int) {p q : List qk} (h : p.length + q.length≤100000) (x : Int) :
    q3w (Qu (ysOf p ++ ysOf q)) ((Qu (ysOf p ++ ysOf q)).map fun y=>decide (Y3 kind (hasR p x y) (hasR q x y))) = some (secJ kind p q x):=by
  obtain ⟨_,a,g⟩:=qg4 h;generalize Qu (ysOf p ++ ysOf q) = ys at a g ⊢;obtain ⟨c,o,k⟩:=qfx ys (ys.map fun y=>decide (Y3 kind (hasR p x y) (hasR q x y))) a.1 q0 qe;rw [o];have s:=q13 p x;have r:=q13 q x;have m:=(q6r kind (covS p x) (covS q x) q0 q0).2;have mp : ∀ z∈ends (covS p x),z∈ys:=fun z j=>(a.2 z).2 (List.mem_append.2 (.inl (qd5 j)));have mq : ∀ z∈ends (covS q x),z∈ys:=fun z j=>(a.2 z).2 (List.mem_append.2 (.inr (qd5 j)));congr 1;refine q6d k.can m.can fun z=>?_;unfold secJ;rw [k.pts z,m.pts z];constructor
  · rintro ⟨i,hi,n,_,f,b,d⟩;simp only [List.getElem_map,decide_eq_true_eq] at f;refine (qdf ?_ ?_).2 f
    · rw [Ua a.1 mp hi b d,Zd]
    · rw [Ua a.1 mq hi b d,Zd]
  · intro l
    have : ∃ i,∃ (h : i + 1 < ys.length),ys[i]≤z∧z < ys[i + 1]:=by
      rcases qdg l with h | h
      · exact q6m a.1 mp h
      · exact q6m a.1 mq h
    obtain ⟨i,hi,b,d⟩:=this;refine ⟨i,hi,by simp;omega,q0,?_,b,d⟩;simp only [List.getElem_map,decide_eq_true_eq];refine (qdf ?_ ?_).1 l
    · rw [Ua a.1 mp hi b d,Zd]
    · rw [Ua a.1 mq hi b d,Zd]
open Classical in
theorem qum (kind : Int) {p q : List qk} (h : p.length + q.length≤100000) (ys xs : List Int) (d : ys.length≤1000000) (i : Nat) (hi : i < xs.length) (a : List qu × Int × Int × List qk) (f : a.2.2.1 = i) :
    loop (Um ys xs a p q kind) (0,[]) = some (ys.map fun y=>decide (Y3 kind (hasR p xs[i] y) (hasR q xs[i] y))):=by
  have:=q3p ys (fun y=>decide (Y3 kind (hasR p xs[i] y) (hasR q xs[i] y))) [] (fun o=>o) (Um ys xs a p q kind) (fun k b o c=>by
    simp only [Um,dlt b,qz,f,Qw b,Qw hi,qj,qe5 p _ _ q0,qe5 q _ _ q0,qh0,w64s b d];rw [Kj (by simp at c ⊢;omega)]
    first | rfl | (rw [qj];congr)) (fun o=>by simp only [Um,dnl,qy])
  rw [List.nil_append] at this;exact this
theorem qup (kind : Int) {p q : List qk} (h : p.length + q.length≤100000) {xs : List Int} (hx : xs.length≤1000000) {i : Nat} (hi : i + 1 < xs.length) (s : Mg qu qk) (hl : (s.flat putR).length + (secJ kind p q xs[i]).length≤1000000)
    (h0 : i = 0→s.sec = []) (h1 : 0 < i→s.hi = xs[i]) :
    Jn xs (Qu (ysOf p ++ ysOf q)) p q kind (s.sec,(s.done.length : Int),(i : Int),s.flat putR) =
      some (.inl ((addM putR s xs[i] xs[i + 1] (secJ kind p q xs[i])).sec,((addM putR s xs[i] xs[i + 1] (secJ kind p q xs[i])).done.length : Int),((i + 1 : Nat) : Int),(addM putR s xs[i] xs[i + 1] (secJ kind p q xs[i])).flat putR)):=by
  have j : i < xs.length:=by omega
  have y : w64 ((i : Int) + 1) = ((i + 1 : Nat) : Int):=w64s j hx;have hy:=(qg4 h).2.2;have af : (s.flat putR).length = s.done.length + s.sec.length:=by simp [Mg.flat]
  have t:=qum kind h (Qu (ysOf p ++ ysOf q)) xs q0 i j (s.sec,(s.done.length : Int),(i : Int),s.flat putR) rfl;unfold Jn;simp only [y,dlt hi,qz,t,qj,qri kind h];generalize hc : secJ kind p q xs[i] = c at hl ⊢;by_cases a : 0 < i∧c = s.sec
  · obtain ⟨b,l⟩:=a;have hb : decide ((i : Int) > 0) = true:=Qb q0
    have d:=q4x (fun v : qk=>({X0:=v.X0,Y0:=v.Y0,X1:=xs[i + 1],Y1:=v.Y1} : qk)) s.done (s.sec.map (putR s.lo s.hi)) (by simp;omega) (Un xs (s.sec,(s.done.length : Int),(i : Int),s.flat putR)) (fun k o f ho=>by
      have h5 : (s.done ++ s.sec.map (putR s.lo s.hi)).length = (s.flat putR).length:=rfl
      simp only [Un,dlt f,qz,Qw f,Qw hi,y,qj,w64s f q0,Int.toNat_natCast]) (fun o=>by simp only [Un,dnl,qy])
    have z : q3x c s.sec = some true:=by rw [qen _ _ q0];simp [l]
    have d : loop (Un xs (s.sec,(s.done.length : Int),(i : Int),s.flat putR)) ((s.done.length : Int),s.flat putR) = _:=d;simp only [hb,qz,z,qj,d];rcases J8 putR s xs[i] xs[i + 1] c with ⟨_,_,_,g⟩ | ⟨h3,g⟩
    · rw [g];simp only [Mg.flat,List.map_map];rfl
    · have m : c = []:=Classical.byContradiction fun hn=>h3 ⟨hn,l,h1 b⟩;rw [g];simp [Mg.flat,← l,m]
  · have r : (cond (decide ((i : Int) > 0)) ((q3x c s.sec).bind fun n=>some n) (some false)) = some false:=by
      by_cases b : 0 < i
      · have hb : decide ((i : Int) > 0) = true:=Qb q0;have u : c≠s.sec:=fun h=>a ⟨b,h⟩;rw [hb,qz,qen _ _ q0];simp [u]
      · have hb : decide ((i : Int) > 0) = false:=Q7 q0;rw [hb,qy]
    have x:=q3p c (putR xs[i] xs[i + 1]) (s.flat putR) (fun o=>(c,((s.flat putR).length : Int),o)) (q2i c xs (s.sec,(s.done.length : Int),(i : Int),s.flat putR)) (fun k f o ho=>by
      simp only [q2i,dlt f,qz,Qw f,Qw j,Qw hi,y,qj,w64s f q0];rw [Kj (by simp;omega)]
      rfl) (fun o=>by simp only [q2i,dnl,qy])
    have g : addM putR s xs[i] xs[i + 1] c = ⟨s.flat putR,c,xs[i],xs[i + 1]⟩:=by
      rcases J8 putR s xs[i] xs[i + 1] c with ⟨g1,g2,_,_⟩ | ⟨_,g⟩
      · refine absurd ?_ a;refine ⟨Nat.pos_of_ne_zero fun h=>g1 ?_,g2⟩;rw [g2,h0 h]
      · exact g
    rw [g];simp only [r,qj,qy,x];simp [Mg.flat]
end Go.Sh
namespace Go.Sh
open Go Go.Am
theorem qpu {A B : Int} : ∀ {l : List Int},l.Pairwise (· < ·)→(∀ x∈l,A≤x∧x≤B)→(l.length : Int)≤max 0 (B - A + 1)
  | [],_,_=>by simp;omega
  | a::l,hs,hb=>by
    obtain ⟨d,c⟩:=List.pairwise_cons.1 hs
    have g:=hb a qe
    have f:=qpu (A:=a + 1) (B:=B) c fun x b=>by
      have:=d x b
      have:=hb x (by simp [b])
      omega
    simp only [List.length_cons]
    omega
theorem qjm {A B : Int} : ∀ {l : List qu},Can l→(∀ v,has l v→A≤v∧v < B)→2 * (l.length : Int)≤max 0 (B - A + 1)
  | [],_,_=>by simp;omega
  | t::l,hc,hb=>by
    have a:=hc.1 t qe
    have c:=(List.pairwise_cons.1 hc.2).1
    have h:=hb t.Lo ⟨t,qe,Int.le_refl _,a⟩
    have f:=hb (t.Hi - 1) ⟨t,qe,q0,q0⟩
    have d:=qjm (A:=t.Hi + 1) (B:=B) (l:=l) ⟨fun s hs=>hc.1 s (by simp [hs]),(List.pairwise_cons.1 hc.2).2⟩ fun v b=>by
      obtain ⟨s,hs,g⟩:=b
      have:=c s hs
      have:=hb v ⟨s,by simp [hs],g⟩
      omega
    simp only [List.length_cons]
    omega
def RB (l : List qk) : Prop:=∀ r∈l,(-600≤r.X0∧r.X0≤600)∧(-600≤r.X1∧r.X1≤600)∧(-600≤r.Y0∧r.Y0≤600)∧(-600≤r.Y1∧r.Y1≤600)
theorem qxd {p : List qk} (h : p.length≤100000) (hb : RB p) : Zo 2 p [] = some (mrgR 2 p []):=by
  have c : p.length + ([] : List qk).length≤100000:=by simpa using h
  unfold Zo;rw [qxf c,qxi c];simp only [qj];obtain ⟨_,j,_⟩:=qke c
  have o : (Qu (xsOf p ++ xsOf [])).length≤1201:=by
    have:=qpu (A:=-600) (B:=600) j.1 fun x s=>by
      have:=(j.2 x).1 s;simp only [xsOf,List.flatMap_nil,List.append_nil,List.mem_flatMap] at this;obtain ⟨r,q,s⟩:=this;have:=hb r q;simp only [List.mem_cons,List.not_mem_nil,or_false] at s;omega
    omega
  have n : ∀ x,(secJ 2 p [] x).length≤600:=fun x=>by
    have hj:=qia 2 c x
    have:=qjm (A:=-600) (B:=600) hj.can fun v b=>by
      have b:=(hj.pts v).1 b;rw [qgz] at b;rcases b with b | b
      · rw [Zd] at b;obtain ⟨r,q,g⟩:=b;have:=hb r q;omega
      · rw [Zd] at b;exact absurd b (q6l x v)
    omega
  have a : ∀ k,((K6 putR K0 ((Yf (Qu (xsOf p ++ xsOf [])) (secJ 2 p [])).take k)).flat putR).length≤800000:=fun k=>by
    have h1:=qda putR (s0:=K0) (M:=600) (steps:=(Yf (Qu (xsOf p ++ xsOf [])) (secJ 2 p [])).take k) (fun t ht=>qpx (M:=600) n t (List.mem_of_mem_take ht))
    have h2 : ((Yf (Qu (xsOf p ++ xsOf [])) (secJ 2 p [])).take k).length≤1200:=by
      rw [List.length_take,q67];omega
    have h3 : (K0.flat putR : List qk).length = 0:=rfl;have h4 : ((Yf (Qu (xsOf p ++ xsOf [])) (secJ 2 p [])).take k).length * 600≤1200 * 600:=Nat.mul_le_mul_right _ h2;omega
  unfold mrgR mrg;generalize Qu (xsOf p ++ xsOf []) = xs at j o a ⊢;generalize d : Yf xs (secJ 2 p []) = steps at a ⊢;have ab : steps.length = xs.length - 1:=by rw [← d];exact q67 _ _
  have key:=Ze (f:=Jn xs (Qu (ysOf p ++ ysOf [])) p [] 2) (fun k=>((K6 putR K0 (steps.take k)).sec,((K6 putR K0 (steps.take k)).done.length : Int),(k : Int),(K6 putR K0 (steps.take k)).flat putR))
    steps.length ((K6 putR K0 steps).flat putR) (fun k u=>by
      have l : k + 1 < xs.length:=by omega
      have hg : steps[k] = (xs[k],xs[k + 1],secJ 2 p [] xs[k]):=by subst d;exact q66 u l
      have ac:=n xs[k];have z:=a k
      have:=qup 2 c (xs:=xs) q0 l (K6 putR K0 (steps.take k)) q0 (fun c=>by subst c;rfl) (fun y=>by
        obtain ⟨m,rfl⟩ : ∃ m,k = m + 1:=⟨k - 1,q0⟩
        rw [q3b putR q0,qcm];subst d
        rw [q66 q0 q0])
      rw [this,q3b putR u,hg]) (by
      rw [List.take_length]
      have hb : decide (w64 ((steps.length : Int) + 1) < (xs.length : Int)) = false:=by
        rw [Q3 q0];exact Q7 q0
      unfold Jn
      simp only [hb,qy]) (Nat.zero_le _)
  have key : loop (Jn xs (Qu (ysOf p ++ ysOf [])) p [] 2) ([],0,0,[]) = some ((K6 putR K0 steps).flat putR):=key;rw [key];rfl
end Go.Sh
namespace Go.Sh
open Go Go.Am
def shS (lo hi low high by_ up : Int) : Int × Int:=(lo + min (Int.tdiv (-low * by_) up) (Int.tdiv (-high * by_) up) - 2,hi + max (Int.tdiv (-low * by_) up) (Int.tdiv (-high * by_) up) + 2)
theorem qqb {H by_ up : Int} (a : -60≤H∧H≤60) (hb : -8≤by_∧by_≤8) : -480≤Int.tdiv (H * by_) up∧Int.tdiv (H * by_) up≤480:=by
  have p:=mulb a hb;have:=Int.natAbs_tdiv (H * by_) up;have b : (H * by_).natAbs.div up.natAbs≤(H * by_).natAbs:=Nat.div_le_self _ _;omega
theorem qp9 {lo hi low c by_ up : Int} (k : -30≤lo∧lo≤30) (h : -30≤hi∧hi≤30) (hb : -8≤by_∧by_≤8) (j : 0≤low∧low≤60) (l : 0≤c∧c≤60) (m : 0 < up) : q7m lo hi low c by_ up = some (shS lo hi low c by_ up):=by
  have g:=mulb (x:=-low) (A:=60) (y:=by_) (B:=8) q0 hb;have p2:=mulb (x:=-c) (A:=60) (y:=by_) (B:=8) q0 hb;have d:=qqb (H:=-low) (up:=up) q0 hb;have f:=qqb (H:=-c) (up:=up) q0 hb;unfold q7m shS;rw [Q3 (x:=0 - low) q0,Q3 (x:=0 - c) q0,show 0 - low = -low by omega,show 0 - c = -c by omega,Q3 (x:=-low * by_) q0,Q3 (x:=-c * by_) q0];unfold J2;rw [qs q0,qj,qs q0,qj,Q3 (x:=Int.tdiv (-low * by_) up) q0,Q3 (x:=Int.tdiv (-c * by_) up) q0];generalize Int.tdiv (-low * by_) up = a at d;generalize Int.tdiv (-c * by_) up = b at f;rw [Q3 (x:=lo + min a b) q0,Q3 (x:=hi + max a b) q0,Q3 q0,Q3 q0]
theorem geo2 {dX a L : Int} {t : Rat} (n : 0 < t) (l : 0 < a) (c : 0≤L) (k : (L : Rat)≤(a : Rat) * t) (f : 0≤dX) : ((Int.tdiv (L * dX) a : Int) : Rat)≤(dX : Rat) * t:=by
  have d : (0 : Rat)≤(dX : Rat):=by exact_mod_cast f
  have b : (0 : Rat) < (a : Rat):=by exact_mod_cast l
  rw [Int.tdiv_eq_ediv_of_nonneg (Int.mul_nonneg c f)];have h:=Int.ediv_mul_le (L * dX) (show a≠0 by omega);generalize (L * dX) / a = w at h;have j : ((w * a : Int) : Rat)≤((L * dX : Int) : Rat):=q3m.2 h;rw [U9,U9] at j;have o : (dX : Rat) * (L : Rat)≤(dX : Rat) * ((a : Rat) * t):=Rat.mul_le_mul_of_nonneg_left k d;refine Rat.not_lt.1 fun g=>?_;have m : (a : Rat) * ((dX : Rat) * t) < (a : Rat) * (w : Rat):=Rat.mul_lt_mul_of_pos_left g b;grind
theorem geoR {lo hi x dX c L H : Int} {t : Rat} (j : 0 < t) (k : 0 < c) (f : 0≤L) (o : (L : Rat)≤(c : Rat) * t) (m : (c : Rat) * t < (H : Rat)) (h : inAx lo hi (2 * x + 1) dX t) : (shS lo hi L H dX c).1≤x∧x≤(shS lo hi L H dX c).2:=by
  obtain ⟨q,p⟩:=h;unfold shS;simp only;rw [Int.neg_mul,Int.neg_mul,Int.neg_tdiv,Int.neg_tdiv];by_cases n : 0≤dX
  · obtain ⟨l,d⟩:=geo1 j k m n;have g:=geo2 j k f o n;generalize Int.tdiv (H * dX) c = w at d;generalize Int.tdiv (L * dX) c = v at g;have a : ((2 * lo - (2 * x + 1) : Int) : Rat) < ((2 * (w + 1) : Int) : Rat):=by rw [U9,show ((2 : Int) : Rat) = 2 from rfl];grind
    have b : ((2 * v : Int) : Rat) < ((2 * hi - (2 * x + 1) : Int) : Rat):=by rw [U9,show ((2 : Int) : Rat) = 2 from rfl];grind
    rw [J0] at a b;omega
  · obtain ⟨l,d⟩:=geo1 j k m (dX:=-dX) q0;have g:=geo2 j k f o (dX:=-dX) q0;rw [Int.mul_neg,Int.neg_tdiv] at d g;rw [Rat.intCast_neg] at l;rw [Rat.intCast_neg dX] at d g;generalize Int.tdiv (H * dX) c = w at d;generalize Int.tdiv (L * dX) c = v at g;have a : ((2 * lo - (2 * x + 1) : Int) : Rat) < ((-(2 * (-v)) : Int) : Rat)∨((2 * lo - (2 * x + 1) : Int) : Rat)≤((-(2 * (-v)) : Int) : Rat):=.inr (by rw [Rat.intCast_neg,U9,show ((2 : Int) : Rat) = 2 from rfl];grind);have b : ((-(2 * (-w + 1)) : Int) : Rat) < ((2 * hi - (2 * x + 1) : Int) : Rat):=by rw [Rat.intCast_neg,U9,show ((2 : Int) : Rat) = 2 from rfl];grind
    rw [J0,q3m] at a;rw [J0] at b;omega
def hq (b : qh) (z : Int) (d : qg) (x y : Int) : Bool:=(hitC (axB b (sqP x y z) d)).isSome
theorem qm0 {b : qh} {d : qg} {z x y : Int} (hd : 0 < d.Z) (r : z < b.Hi.Z∨True) (h : hq b z d x y = true) :
    z < b.Hi.Z∧((shS b.Lo.X b.Hi.X (max b.Lo.Z z - z) (b.Hi.Z - z) d.X d.Z).1≤x∧x≤(shS b.Lo.X b.Hi.X (max b.Lo.Z z - z) (b.Hi.Z - z) d.X d.Z).2)∧
      (shS b.Lo.Y b.Hi.Y (max b.Lo.Z z - z) (b.Hi.Z - z) d.Y d.Z).1≤y∧y≤(shS b.Lo.Y b.Hi.Y (max b.Lo.Z z - z) (b.Hi.Z - z) d.Y d.Z).2:=by
  have j : nzV d:=.inr (.inr q0);unfold hq at h;rw [← q9z] at h;obtain ⟨t,f,a⟩:=(qgx (q57 j)).1 h;rw [q53] at a;obtain ⟨p,n,l⟩:=a;have c:=qm5 (z:=z) l;have o : (0 : Rat) < (d.Z : Rat):=by exact_mod_cast hd
  have q:=Rat.mul_pos o f
  have k : ((max b.Lo.Z z - z : Int) : Rat)≤(d.Z : Rat) * t:=by
    by_cases g : b.Lo.Z≤z
    · rw [show max b.Lo.Z z - z = 0 by omega,show ((0 : Int) : Rat) = 0 from rfl];exact Rat.le_of_lt q
    · rw [show max b.Lo.Z z - z = b.Lo.Z - z by omega];exact Rat.le_of_lt c.2
  refine ⟨?_,geoR f hd q0 k c.1 p,geoR f hd q0 k c.1 n⟩;have m : ((0 : Int) : Rat) < ((b.Hi.Z - z : Int) : Rat):=by rw [show ((0 : Int) : Rat) = 0 from rfl];grind
  rw [J0] at m;omega
def q1v (x : Int) (h : Bool) (m : List qk) (y : Int) : List qk:=if h = true then (match m.getLast? with | some r=>if r.X0 = x∧r.Y1 = y then m.dropLast ++ [{X0:=r.X0,Y0:=r.Y0,X1:=r.X1,Y1:=y + 1}] else m ++ [{X0:=x,Y0:=y,X1:=x + 1,Y1:=y + 1}] | none=>m ++ [{X0:=x,Y0:=y,X1:=x + 1,Y1:=y + 1}]) else m
def WF (m : List qk) : Prop:=∀ r∈m,(r.X1 = r.X0 + 1∧r.Y0 < r.Y1)∧(-500≤r.X0∧r.X0≤500)∧(-500≤r.Y0∧r.Y1≤501)
def fl (x y : Int) (m : List qk) : Prop:=∃ r,m.getLast? = some r∧r.X0 = x∧r.Y1 = y
theorem ql4 {L : List qk} {r : qk} {x y : Int} (a : r.X0 = x) (b : r.Y1 = y) : fl x y (L ++ [r]):=⟨r,qe,a,b⟩
theorem qgo {a b : List qk} {X Y : Int} : hasR (a ++ b) X Y↔hasR a X Y∨hasR b X Y:=by
  unfold hasR;constructor
  · rintro ⟨t,c,h⟩;rcases List.mem_append.1 c with c | c
    · exact .inl ⟨t,c,h⟩
    · exact .inr ⟨t,c,h⟩
  · rintro (⟨t,c,h⟩ | ⟨t,c,h⟩)
    · exact ⟨t,List.mem_append.2 (.inl c),h⟩
    · exact ⟨t,List.mem_append.2 (.inr c),h⟩
theorem qgp {t : qk} {X Y : Int} : hasR [t] X Y↔t.X0≤X∧X < t.X1∧t.Y0≤Y∧Y < t.Y1:=by unfold hasR;simp
theorem qsf {x y : Int} {h : Bool} {m : List qk} {n : Int} (t : -500≤x∧x≤500) (v : -500≤y∧y≤500) (c : WF m) (f : 2 * (m.length : Int)≤n + 1) (l : ¬ fl x y m→2 * (m.length : Int)≤n) :
    WF (q1v x h m y)∧(∀ X Y,hasR (q1v x h m y) X Y↔hasR m X Y∨(X = x∧Y = y∧h = true))∧2 * ((q1v x h m y).length : Int)≤n + 2∧(¬ fl x (y + 1) (q1v x h m y)→2 * ((q1v x h m y).length : Int)≤n + 1):=by
  unfold q1v;by_cases b : h = true
  · rw [qq b]
    have new : ¬ fl x y m→WF (m ++ [{X0:=x,Y0:=y,X1:=x + 1,Y1:=y + 1}])∧(∀ X Y,hasR (m ++ [{X0:=x,Y0:=y,X1:=x + 1,Y1:=y + 1}]) X Y↔hasR m X Y∨(X = x∧Y = y∧h = true))∧2 * (((m ++ [({X0:=x,Y0:=y,X1:=x + 1,Y1:=y + 1} : qk)]).length : Nat) : Int)≤n + 2∧(¬ fl x (y + 1) (m ++ [{X0:=x,Y0:=y,X1:=x + 1,Y1:=y + 1}])→2 * (((m ++ [({X0:=x,Y0:=y,X1:=x + 1,Y1:=y + 1} : qk)]).length : Nat) : Int)≤n + 1):=by
      intro p;have:=l p;refine ⟨fun r a=>?_,fun X Y=>?_,by simp;omega,fun g=>(g (ql4 rfl rfl)).elim⟩
      · rcases List.mem_append.1 a with a | a
        · exact c r a
        · simp only [List.mem_singleton] at a;rw [a];exact ⟨⟨rfl,by show y < y + 1;omega⟩,t,by show -500≤y∧y + 1≤501;omega⟩
      · rw [qgo,qgp];simp only [b];constructor
        · rintro (g | g)
          · exact .inl g
          · exact .inr ⟨q0,q0,trivial⟩
        · rintro (g | ⟨s,o,_⟩)
          · exact .inl g
          · exact .inr q0
    rcases List.eq_nil_or_concat m with rfl | ⟨L,r,rfl⟩
    · exact new (by rintro ⟨r,a,_⟩;cases a)
    rw [List.concat_eq_append] at c f l new ⊢;rw [show (L ++ [r]).getLast? = some r by simp];simp only;by_cases d : r.X0 = x∧r.Y1 = y
    · rw [qq d,show (L ++ [r]).dropLast = L by simp];have a:=c r qe;refine ⟨fun q hq=>?_,fun X Y=>?_,by simp at f ⊢;omega,fun g=>(g (ql4 d.1 rfl)).elim⟩
      · rcases List.mem_append.1 hq with hq | hq
        · exact c q (by simp [hq])
        · simp only [List.mem_singleton] at hq;rw [hq];simp only;omega
      · rw [qgo,qgp,qgo,qgp];simp only [b];constructor
        · rintro (g | g)
          · exact .inl (.inl g)
          · by_cases u : Y < r.Y1
            · exact .inl (.inr q0)
            · exact .inr ⟨q0,q0,trivial⟩
        · rintro ((g | g) | ⟨s,o,_⟩)
          · exact .inl g
          · exact .inr q0
          · exact .inr q0
    · rw [qs d];refine new ?_;rintro ⟨q,hq,k,j⟩;simp at hq;rw [← hq] at k j;exact d ⟨k,j⟩
  · rw [qs b];refine ⟨c,fun X Y=>by simp [b],q0,fun _=>f⟩
theorem qsg {b : qh} {d : qg} {z x y : Int} (hb : K9 b) (hd : dirV d) (f : nzV d) (p : -30≤z∧z≤30) (o : -500≤x∧x≤500) (n : -500≤y∧y≤500) {A : Int × List qk} (k : A.1 = x) {R : Int × Int} (j : y≤R.2) {m : List qk} (h : m.length≤1000000) :
    q43 R b A z d (y,m) = some (.inl (y + 1,q1v x (hq b z d x y) m y)):=by
  unfold q43;rw [Qb j,k];simp only [qz];rw [Q3 (x:=2 * x) q0,Q3 (x:=2 * y) q0,Q3 (x:=2 * z) q0,Q3 (x:=2 * x + 1) q0,Q3 (x:=2 * y + 1) q0,Q3 (x:=y + 1) q0,Q3 (x:=x + 1) q0];rw [show ({X:=2 * x + 1,Y:=2 * y + 1,Z:=2 * z} : qg) = sqP x y z from rfl,qoa hb (by unfold dirV at hd;unfold Yy sqP;simp only;omega) f];simp only [qj];unfold q1v hq;rw [← q9z]
  cases hitT (axB b (sqP x y z) d) with
  | none=>rfl
  | some q=>
    simp only [Bool.not_true,qy,Option.isSome_some,if_true];rcases List.eq_nil_or_concat m with rfl | ⟨L,s,rfl⟩
    · rw [Q7 qe];simp only [qy,qj];rw [Kj qe];rfl
    · rw [List.concat_eq_append] at h ⊢;have a : (L ++ [s]).length = L.length + 1:=by simp
      have hi : idx (L ++ [s]) (L.length : Int) = some s:=by rw [qdi];simp
      rw [Qb (by rw [a];omega),Q3 (x:=((L ++ [s]).length : Int) - 1) q0,show ((L ++ [s]).length : Int) - 1 = (L.length : Int) by rw [a];omega];simp only [qz,hi,qj,show (L ++ [s]).getLast? = some s by simp];by_cases c : s.X0 = x∧s.Y1 = y
      · rw [show (s.X0 == x) = true by simpa using c.1,qq c];simp only [qz,qj];rw [show (s.Y1 == y) = true by simpa using c.2];simp only [qz,qj];congr 4;rw [Int.toNat_natCast,List.set_append,qs q0];simp
      · rw [qs c]
        have l : (((cond (s.X0 == x) (some (s.Y1 == y)) (some false))) : Option Bool) = some false:=by
          by_cases g : s.X0 = x
          · have : s.Y1≠y:=fun e=>c ⟨g,e⟩;rw [show (s.X0 == x) = true by simpa using g,show (s.Y1 == y) = false by simpa using this];rfl
          · rw [show (s.X0 == x) = false by simpa using g];rfl
        rw [l];simp only [qj,qy];rw [Kj (by simp at h ⊢;omega)];rfl
theorem qk4 {b : qh} {d : qg} {z x : Int} (hb : K9 b) (hd : dirV d) (c : nzV d) (p : -30≤z∧z≤30) (l : -500≤x∧x≤500) {A : Int × List qk} (o : A.1 = x) {R : Int × Int} (hR : R.2≤500) : ∀ (n : Nat) (y : Int) (m : List qk) (w : Int),-500≤y→(R.2 + 1 - y).toNat = n→WF m→2 * (m.length : Int)≤w + 1→(¬ fl x y m→2 * (m.length : Int)≤w)→w + n≤1000000→
    ∃ a,loop (q43 R b A z d) (y,m) = some a∧WF a∧(∀ X Y,hasR a X Y↔hasR m X Y∨(X = x∧(y≤Y∧Y≤R.2)∧hq b z d X Y = true))∧2 * (a.length : Int)≤w + n + 1
  | 0,y,m,w,h0,hn,hm,l1,l2,hw=>by
    have k : q43 R b A z d (y,m) = some (.inr m):=by
      unfold q43;rw [Q7 (by show ¬ y≤R.2;omega)];rfl
    refine ⟨m,K7 k,hm,fun X Y=>?_,q0⟩
    constructor
    · exact .inl
    · rintro (g | ⟨_,g,_⟩)
      · exact g
      · omega
  | n + 1,y,m,w,h0,hn,hm,l1,l2,hw=>by
    have j:=qsg hb hd c p l (by omega : -500≤y∧y≤500) o (by omega : y≤R.2) (m:=m) q0;obtain ⟨v,r,s3,q⟩:=qsf (h:=hq b z d x y) l (by omega : -500≤y∧y≤500) hm l1 l2;obtain ⟨a,e1,s,e3,e4⟩:=qk4 hb hd c p l o hR n (y + 1) (q1v x (hq b z d x y) m y) (w + 1) q0 q0 v q0 q q0;refine ⟨a,by rw [Ka j];exact e1,s,fun X Y=>?_,q0⟩;rw [e3 X Y,r X Y];constructor
    · rintro ((g | ⟨rfl,rfl,g⟩) | ⟨rfl,u,f⟩)
      · exact .inl g
      · exact .inr ⟨rfl,q0,g⟩
      · exact .inr ⟨rfl,q0,f⟩
    · rintro (g | ⟨rfl,u,f⟩)
      · exact .inl (.inl g)
      · by_cases t : Y = y
        · subst t;exact .inl (.inr ⟨rfl,rfl,f⟩)
        · exact .inr ⟨rfl,q0,f⟩
theorem qjl {b : qh} {d : qg} {z : Int} (hb : K9 b) (hd : dirV d) (f : nzV d) (o : -30≤z∧z≤30) {Q R : Int × Int} (t : Q.2≤499) (r : -500≤R.1∧R.2≤499) {N : Int} (hN : R.2 + 1 - R.1≤N∧0≤N∧N≤200) : ∀ (n : Nat) (x : Int) (m : List qk) (w : Int),-500≤x→(Q.2 + 1 - x).toNat = n→WF m→2 * (m.length : Int)≤w→w + n * (N + 1)≤900000→
    ∃ c,loop (q42 Q R b z d) (x,m) = some c∧WF c∧(∀ X Y,hasR c X Y↔hasR m X Y∨((x≤X∧X≤Q.2)∧(R.1≤Y∧Y≤R.2)∧hq b z d X Y = true))∧2 * (c.length : Int)≤w + n * (N + 1)
  | 0,x,m,w,h0,hn,hm,l1,hw=>by
    have l : q42 Q R b z d (x,m) = some (.inr m):=by
      unfold q42;rw [Q7 (by show ¬ x≤Q.2;omega)];rfl
    refine ⟨m,K7 l,hm,fun X Y=>?_,q0⟩
    constructor
    · exact .inl
    · rintro (g | ⟨g,_,_⟩)
      · exact g
      · omega
  | n + 1,x,m,w,h0,hn,hm,l1,hw=>by
    have p : ((n + 1 : Nat) : Int) * (N + 1) = (n : Int) * (N + 1) + (N + 1):=by
      rw [show ((n + 1 : Nat) : Int) = (n : Int) + 1 by omega,Int.add_mul,Int.one_mul]
    have ac : 0≤(n : Int) * (N + 1):=Int.mul_nonneg q0 q0;obtain ⟨q,y,u,e3,e4⟩:=qk4 hb hd f o (by omega : -500≤x∧x≤500) (A:=(x,m)) rfl (R:=R) q0 (R.2 + 1 - R.1).toNat R.1 m w r.1 rfl hm q0 (fun _=>l1) q0
    have j : q42 Q R b z d (x,m) = some (.inl (x + 1,q)):=by
      unfold q42;rw [Qb (by show x≤Q.2;omega)];simp only [qz];rw [y];simp only [qj];rw [Q3 q0]
    obtain ⟨c,f1,v,f3,f4⟩:=qjl hb hd f o t r hN n (x + 1) q (w + (N + 1)) q0 q0 u q0 q0;refine ⟨c,by rw [Ka j];exact f1,v,fun X Y=>?_,q0⟩;rw [f3 X Y,e3 X Y];constructor
    · rintro ((g | ⟨rfl,k,a⟩) | ⟨k,a,h⟩)
      · exact .inl g
      · exact .inr ⟨q0,k,a⟩
      · exact .inr ⟨q0,a,h⟩
    · rintro (g | ⟨k,a,h⟩)
      · exact .inl (.inl g)
      · by_cases s : X = x
        · subst s;exact .inl (.inr ⟨rfl,a,h⟩)
        · exact .inr ⟨q0,a,h⟩
def smB (b : qh) : Prop:=((-9≤b.Lo.X∧b.Lo.X≤9)∧(-9≤b.Lo.Y∧b.Lo.Y≤9)∧(-9≤b.Lo.Z∧b.Lo.Z≤9))∧((-9≤b.Hi.X∧b.Hi.X≤9)∧(-9≤b.Hi.Y∧b.Hi.Y≤9)∧(-9≤b.Hi.Z∧b.Hi.Z≤9))
theorem qp1 {lo hi L H by_ up : Int} (h1 : -9≤lo∧lo≤9) (h2 : -9≤hi∧hi≤9) (hb : -8≤by_∧by_≤8) (d : 0≤L∧L≤39) (f : 0≤H∧H≤39) (t : -18≤H - L∧H - L≤18) (n : 0 < up) :
    -500≤(shS lo hi L H by_ up).1∧(shS lo hi L H by_ up).2≤499∧(shS lo hi L H by_ up).2 + 1 - (shS lo hi L H by_ up).1≤170:=by
  have key : ∀ c : Int,0≤c∧c≤8→∀ A B : Int,0≤A→A≤39→0≤B→B≤39→B - A≤18→Int.tdiv (B * c) up≤Int.tdiv (A * c) up + 145∧0≤Int.tdiv (A * c) up∧Int.tdiv (A * c) up≤312:=by
    intro c h A B m s hB p o;rw [Int.tdiv_eq_ediv_of_nonneg (Int.mul_nonneg m h.1),Int.tdiv_eq_ediv_of_nonneg (Int.mul_nonneg hB h.1)]
    have m1 : (B - A) * c≤144:=by
      by_cases g : 0≤B - A
      · have:=mulb (x:=B - A) (A:=18) (y:=c) (B:=8) q0 q0;omega
      · have:=Int.mul_nonneg (a:=A - B) (b:=c) q0 h.1;have e : (B - A) * c = -((A - B) * c):=by rw [← Int.neg_mul];congr 1;omega
        omega
    have e : B * c = A * c + (B - A) * c:=by rw [← Int.add_mul];congr 1;omega
    have hm : A * c≤312:=by have:=mulb (x:=A) (A:=39) (y:=c) (B:=8) q0 q0;omega
    have l : 0≤A * c:=Int.mul_nonneg m h.1;have q1 : (B * c) / up≤(A * c + 144) / up:=Int.ediv_le_ediv n q0
    have q2 : (A * c + 144) / up≤(A * c) / up + 145:=by
      have u:=Int.ediv_mul_le (A * c + 144) (show up≠0 by omega);have z:=Int.lt_ediv_add_one_mul_self (A * c) n;generalize (A * c + 144) / up = q at u;generalize (A * c) / up = r at z;refine Classical.byContradiction fun hn=>?_;have : (r + 146) * up≤q * up:=Int.mul_le_mul_of_nonneg_right q0 q0;have e2 : (r + 146) * up = (r + 1) * up + 145 * up:=by rw [← Int.add_mul];congr 1;omega
      omega
    have q3:=Int.ediv_nonneg l (show 0≤up by omega);have q4:=Int.ediv_le_self up l;omega
  unfold shS;simp only;rw [Int.neg_mul,Int.neg_mul,Int.neg_tdiv,Int.neg_tdiv];by_cases h : 0≤by_
  · have j:=key by_ ⟨h,hb.2⟩ L H d.1 d.2 f.1 f.2 q0;have k:=key by_ ⟨h,hb.2⟩ H L f.1 f.2 d.1 d.2 q0;generalize Int.tdiv (H * by_) up = w at j k ⊢;generalize Int.tdiv (L * by_) up = v at j k ⊢;omega
  · have j:=key (-by_) ⟨q0,q0⟩ L H d.1 d.2 f.1 f.2 q0;have k:=key (-by_) ⟨q0,q0⟩ H L f.1 f.2 d.1 d.2 q0;rw [Int.mul_neg,Int.mul_neg,Int.neg_tdiv,Int.neg_tdiv] at j k;generalize Int.tdiv (H * by_) up = w at j k ⊢;generalize Int.tdiv (L * by_) up = v at j k ⊢;omega
theorem qr8 {l : List qh} {d : qg} {z : Int} (hl : l.length≤6) (hb : ∀ b∈l,smB b) (aa : ∀ b∈l,b.Lo.Z < b.Hi.Z) (hd : dirV d) (c : 0 < d.Z) (hz : -30≤z∧z≤30) : ∀ (n k : Nat) (m : List qk),k + n = l.length→WF m→2 * (m.length : Int)≤k * 29070→
    ∃ r,loop (q41 l z d) ((k : Int),m) = some r∧WF r∧(∀ X Y,hasR r X Y↔hasR m X Y∨∃ b∈l.drop k,hq b z d X Y = true)∧2 * (r.length : Int)≤6 * 29070:=by
  intro n
  induction n with
  | zero=>
    intro k m hk u hw
    have v : q41 l z d ((k : Int),m) = some (.inr m):=by
      unfold q41;rw [Q7 (by show ¬ (k : Int) < l.length;omega)];rfl
    refine ⟨m,K7 v,u,fun X Y=>?_,q0⟩;rw [List.drop_eq_nil_of_le q0];simp
  | succ n ih=>
    intro k m hk u hw;have a : k < l.length:=by omega
    have ae : nzV d:=.inr (.inr q0);have q:=hb _ (Ks a);have s:=aa _ (Ks a);have j : l.drop k = l[k]::l.drop (k + 1):=List.drop_eq_getElem_cons a
    have p : ∃ f,q41 l z d ((k : Int),m) = some (.inl (((k + 1 : Nat) : Int),f))∧WF f∧(∀ X Y,hasR f X Y↔hasR m X Y∨hq l[k] z d X Y = true)∧2 * (f.length : Int)≤((k + 1 : Nat) : Int) * 29070:=by
      unfold q41;simp only [dlt a,qz,Qw a,qj,w64s a (show l.length≤1000000 by omega)];generalize l[k] = b at q s;have ab : K9 b:=by unfold smB at q;unfold K9;omega
      by_cases t : b.Hi.Z≤z
      · rw [Qb t];refine ⟨m,rfl,u,fun X Y=>⟨.inl,?_⟩,q0⟩;rintro (g | g)
        · exact g
        · have:=(qm0 c (.inr trivial) g).1;omega
      · rw [Q7 t];unfold smB at q;unfold dirV at hd;rw [Q3 (x:=max b.Lo.Z z - z) q0,Q3 (x:=b.Hi.Z - z) q0];simp only [qy];rw [qp9 q0 q0 hd.1 q0 q0 c,qj,qp9 q0 q0 hd.2.1 q0 q0 c,qj];have y:=qp1 (lo:=b.Lo.X) (hi:=b.Hi.X) (L:=max b.Lo.Z z - z) (H:=b.Hi.Z - z) (by_:=d.X) (up:=d.Z) q0 q0 hd.1 q0 q0 q0 c;have bY:=qp1 (lo:=b.Lo.Y) (hi:=b.Hi.Y) (L:=max b.Lo.Z z - z) (H:=b.Hi.Z - z) (by_:=d.Y) (up:=d.Z) q0 q0 hd.2.1 q0 q0 q0 c;have o : ∀ X Y,hq b z d X Y = true→_:=fun X Y h=>qm0 c (.inr trivial) h;generalize shS b.Lo.X b.Hi.X (max b.Lo.Z z - z) (b.Hi.Z - z) d.X d.Z = Q at y o ⊢;generalize shS b.Lo.Y b.Hi.Y (max b.Lo.Z z - z) (b.Hi.Z - z) d.Y d.Z = R at bY o ⊢;have ac : ((Q.2 + 1 - Q.1).toNat : Int) * (170 + 1)≤170 * 171:=Int.mul_le_mul_of_nonneg_right q0 q0;obtain ⟨f,e1,e2,e3,e4⟩:=qjl (N:=170) ab hd ae hz (Q:=Q) (R:=R) y.2.1 ⟨bY.1,bY.2.1⟩ ⟨q0,q0,q0⟩ (Q.2 + 1 - Q.1).toNat Q.1 m (k * 29070) y.1 rfl u hw q0;refine ⟨f,by rw [e1];rfl,e2,fun X Y=>?_,q0⟩;rw [e3 X Y];constructor
        · rintro (g | ⟨_,_,g⟩)
          · exact .inl g
          · exact .inr g
        · rintro (g | g)
          · exact .inl g
          · have:=o X Y g;exact .inr ⟨this.2.1,this.2.2,g⟩
    obtain ⟨f,h1,h2,h3,h4⟩:=p;obtain ⟨r,f1,f2,f3,f4⟩:=ih (k + 1) f q0 h2 h4;refine ⟨r,by rw [Ka h1];exact f1,f2,fun X Y=>?_,f4⟩;rw [f3 X Y,h3 X Y,j];simp only [List.mem_cons,exists_eq_or_imp,or_assoc]
theorem qy7 {l : List qh} (hl : l.length≤400→l.length≤6∧∀ b∈l,inV b.Lo 9∧inV b.Hi 9) (z : Int) (d : qg) : qaq l z d = some (Ub l z d):=by
  unfold qaq Ub;rw [qee,qj];by_cases k : chkF l d = 0
  · have hs:=Ug k;rw [k];simp only [show ((0 : Int) != 0) = false from rfl,qy,ne_eq,not_true_eq_false,if_false];by_cases q : z < -30∨30 < z∨d.Z≤0
    · rw [qq q];by_cases a : z < -30
      · rw [Qb a];rfl
      · rw [Q7 a];by_cases b : z > 30
        · rw [Qb b];rfl
        · rw [Q7 b,Qb q0];rfl
    · rw [qs q,Q7 q0,Q7 q0,Q7 q0];simp only [qy,qj];have h:=hl (Ja hs.ck);have j : -30≤z∧z≤30:=by omega
      have f : 0 < d.Z:=by omega
      have hv:=(qcy.1 hs.ck).2.1;obtain ⟨m,t,v,e3,e4⟩:=qr8 (l:=l) (d:=d) (z:=z) h.1 (fun b hb=>by have:=h.2 b hb;unfold inV at this;unfold smB;omega) (fun b hb=>(hv b hb).1.2.2) hs.dr f j l.length 0 [] q0 (by intro r o;cases o) qe;rw [show ((0 : Nat) : Int) = 0 from rfl] at t;have c : m.length≤100000:=by omega
      rw [t,qj,qxd c (fun r o=>by have:=v r o;unfold WF at *;omega),qj];have p : m.length + ([] : List qk).length≤100000:=by simpa using c
      obtain ⟨g1,u⟩:=q10e hs j f
      have n : mrgR 2 m [] = shL l z d:=qfu (qhh 2 p) g1 fun x y=>by
        rw [qu4 c,e3 x y,u x y];constructor
        · rintro (g | ⟨b,hb,g⟩)
          · exact absurd g (q6l x y)
          · exact ⟨b,by simpa using hb,g⟩
        · rintro ⟨b,hb,g⟩;exact .inr ⟨b,by simpa using hb,g⟩
      rw [n];by_cases s : 400 < (shL l z d).length
      · rw [Qb q0,qq s];rfl
      · rw [Q7 q0,qs s];rfl
  · rw [show (chkF l d != 0) = true by simpa using k,qz,qq k];rfl
theorem q10j (l : List qh) (z : Int) (d : qg) : (Ub l z d).1.length≤400:=by
  unfold Ub;split
  · simp
  · split
    · simp
    · split
      · simp
      · simp only;omega
theorem q15u (l : List qh) (z : Int) (d : qg) : qdm l z d = some true:=by
  unfold qdm;obtain ⟨b,hb,a⟩:=qhj l;rw [hb,qj]
  cases b with
  | false=>rfl
  | true=>
    simp only [Bool.not_true,qy];have c:=q10j l z d;rw [q99,qy7 (a rfl).2];simp only [qj];rw [qb0 (Ub l z d).1 (Ub l z d).1 q0];simp
end Go.Sh
namespace Go.Sh
open Go Go.Am
instance (n m : Int) : Decidable (LowT n m):=by unfold LowT;infer_instance
theorem qcz {l : List qh} {d : qg} (h : Kx l = 0) (hb : ∀ b∈l,inV b.Lo 30∧inV b.Hi 30) (hd : inV d 8∧nzV d) : chkF l d = 0:=by
  unfold chkF;rw [qs (by simpa using h),qq hb,qq hd]
theorem qs9 {l : List qh} {d : qg} (h : Kx l = 0) (hb : ¬ ∀ b∈l,inV b.Lo 30∧inV b.Hi 30) : chkF l d = 16:=by
  unfold chkF;rw [qs (by simpa using h),qs hb]
theorem qjt {l : List qh} {d : qg} (h : Kx l = 0) (hb : ∀ b∈l,inV b.Lo 30∧inV b.Hi 30) (hd : ¬ (inV d 8∧nzV d)) : chkF l d = 2:=by
  unfold chkF;rw [qs (by simpa using h),qq hb,qs hd]
theorem qlh {l : List qh} {p d : qg} (h : chkF l d = 0) (a : fitV p d∧inV p 240) : q3c l p d = (!decide (blk l p d),0):=by
  unfold q3c;rw [qs (by simpa using h),qq a]
theorem qgk {l : List qh} {p d : qg} (h : chkF l d = 0) (a : ¬ (fitV p d∧inV p 240)) : q3c l p d = (false,2):=by
  unfold q3c;rw [qs (by simpa using h),qs a]
theorem qgj {l : List qh} {p d : qg} {e : Int} (h : chkF l d = e) (a : e≠0) : q3c l p d = (false,e):=by
  unfold q3c;rw [qq (by rw [h];exact a),h]
theorem qd9 {l : List qh} {p d : qg} (h : chkF l d = 0) (a : fitV p d∧inV p 240) {u : Int × Int} (f : Je l p d = some u) (c : LowT u.1 u.2) : q3a l p d = (({Num:=u.1,Den:=u.2} : Qr),0):=by
  have hs:=Ug h;have b:=(qgb hs.bx (q7r hs a.2) hs.nz).2;unfold q3a;rw [qs (by simpa using h),qq a,← b,f];show (ofR (valC u),(0 : Int)) = _;rw [show ofR (valC u) = ({Num:=u.1,Den:=u.2} : Qr) from qa7 c]
theorem qtg {l : List qh} {p d : qg} (h : chkF l d = 0) (a : fitV p d∧inV p 240) (c : Je l p d = none) : q3a l p d = (({Num:=0,Den:=0} : Qr),6):=by
  have hs:=Ug h;have b:=(qgb hs.bx (q7r hs a.2) hs.nz).2;unfold q3a;rw [qs (by simpa using h),qq a,← b,c];rfl
theorem qm8 (p : Prop) [Decidable p] : ind p = if p then 1 else 0:=by
  by_cases h : p
  · rw [qq h,qa1 h]
  · rw [qs h,Ji h]
def g1D (l : List qh) (d v : qg) (k : Int) : Int:=if J1 l v (wayV k)∧U2 l v (wayV k) d = true then 1 else 0
def g2D (l : List qh) (d v : qg) (k : Int) : Int:=if J1 l v (wayV k)∧U2 l v (wayV k) d = false then 1 else 0
def cntD (g : qg→Int→Int) (b : qh) : Int:=sumI b.Lo.X b.Hi.X fun x=>sumI b.Lo.Y b.Hi.Y fun y=>sumI b.Lo.Z b.Hi.Z fun z=>sumI 0 6 fun k=>g ⟨x,y,z⟩ k
theorem quv (l : List qh) (d : qg) : litN l d = sumL (cntD (g1D l d)) l:=by
  have : g1F l d = g1D l d:=by funext v k;exact qm8 _
  unfold litN;rw [this];rfl
theorem qsw (l : List qh) (d : qg) : q9s l d = sumL (cntD (g2D l d)) l:=by
  have : g2F l d = g2D l d:=by funext v k;exact qm8 _
  unfold q9s;rw [this];rfl
theorem qk9 {l : List qh} {d : qg} (h : chkF l d = 0) {a b : Int} (c : sumL (cntD (g1D l d)) l = a) (f : sumL (cntD (g2D l d)) l = b) : q37 l d = (w64 a,w64 b,0):=by
  unfold q37;rw [qs (by simpa using h),quv,qsw,c,f]
theorem qsq {l : List qh} {d : qg} {e : Int} (h : chkF l d = e) (a : e≠0) : q37 l d = (0,0,e):=by
  unfold q37;rw [qq (by rw [h];exact a),h]
theorem qml {l : List qh} {v d : qg} {k : Int} (h : chkF l d = 0) (a : ¬ 5 < k) (b : hasB l v.X v.Y v.Z∧J1 l v (wayV k)) : litR l v k d = (U2 l v (wayV k) d,0):=by
  unfold litR;rw [qs (by simpa using h),qs a,qq b]
theorem qib {l : List qh} {z : Int} {d : qg} (h : chkF l d = 0) (b : ¬ (z < -30∨30 < z∨d.Z≤0)) {R : List qk} (a : shL l z d = R) (c : R.length≤400) : Ub l z d = (R,0):=by
  unfold Ub;rw [qs (by simpa using h),qs b,a,qs q0]
theorem qp5 {l : List qh} {z : Int} {d : qg} (h : chkF l d = 0) (a : z < -30∨30 < z∨d.Z≤0) : Ub l z d = ([],2):=by
  unfold Ub;rw [qs (by simpa using h),qq a]
def one1 : List qh:=[bx 0 0 0 1 1 1]
theorem qhp : Kx one1 = 0:=q9o qr
theorem qaa {d : qg} (hd : inV d 8∧nzV d) : chkF one1 d = 0:=qcz qhp qr hd
theorem q10f : shL one1 0 ⟨0,0,1⟩ = [⟨0,0,1,1⟩]:=by
  unfold shL;rw [qs qr];decide +kernel
theorem q10g : shL [bx 0 0 1 1 1 2] 0 ⟨1,0,1⟩ = [⟨-2,0,0,1⟩]:=by
  unfold shL;rw [qs qr];decide +kernel
theorem qj4 : q6s = some true:=by
  have c1 : chkF one1 ⟨1,0,0⟩ = 0:=qaa qr;have c2 : chkF one1 ⟨1,0,1⟩ = 0:=qaa qr;have c3 : chkF one1 ⟨0,0,1⟩ = 0:=qaa qr;have c4 : chkF [bx 0 0 1 1 1 2] ⟨1,0,1⟩ = 0:=qcz (q9o qr) qr qr;have d : Ux one1 ⟨-3,1,1⟩ ⟨1,0,0⟩ = some (⟨3,2⟩,0):=by rw [q95,qd9 (u:=(3,2)) c1 qr qr qr]
  have j : q2w one1 ⟨1,0,1⟩ = some (2,4,0):=by
    rw [qf2,qk9 (a:=2) (b:=4) c2 (by decide +kernel) (by decide +kernel)];rfl
  have f : Uy one1 ⟨0,0,0⟩ 0 ⟨1,0,1⟩ = some (true,0):=by
    rw [qca _ _ qr,qml c2 qr qr];decide +kernel
  have h : Uy one1 ⟨0,0,0⟩ 4 ⟨1,0,1⟩ = some (true,0):=by
    rw [qca _ _ qr,qml c2 qr qr];decide +kernel
  have c : Ue one1 0 ⟨0,0,1⟩ = some ([⟨0,0,1,1⟩],0):=by rw [q99,qib c3 qr q10f qr]
  have g : Ue [bx 0 0 1 1 1 2] 0 ⟨1,0,1⟩ = some ([⟨-2,0,0,1⟩],0):=by rw [q99,qib c4 qr q10g qr]
  unfold q6s;simp only [show q1g 0 0 0 1 1 1 = some (bx 0 0 0 1 1 1) from rfl,show q1g 0 0 1 1 1 2 = some (bx 0 0 1 1 1 2) from rfl,Y4,qa3,qj,show [bx 0 0 0 1 1 1] = one1 from rfl,d,j,f,h,c,g,beq_self_eq_true,qz,Bool.and_self,qb0 _ _ (show [(⟨0,0,1,1⟩ : qk)].length≤1000000 by simp),qb0 _ _ (show [(⟨-2,0,0,1⟩ : qk)].length≤1000000 by simp),decide_true]
theorem qjr : Kx [({Lo:=({X:=0,Y:=0,Z:=0} : qg),Hi:=({X:=0,Y:=0,Z:=0} : qg)} : qh)] = 8:=by
  unfold Kx;rw [qs qr,qs qr]
theorem bnd {α β : Type} {x : Option α} {a : α} {f : α→Option β} {r : Option β} (h : x = some a) (k : f a = r) : x.bind f = r:=by rw [h];exact k
theorem q15t : qdl = some true:=by
  have c : chkF one1 ⟨0,0,1⟩ = 0:=qaa qr;have b1 : chkF [bx 0 0 0 31 1 1] ⟨0,0,1⟩ = 16:=qs9 (q9o qr) qr;have y : chkF one1 ⟨0,0,0⟩ = 2:=qjt qhp qr qr;have o : chkF one1 ⟨9,0,0⟩ = 2:=qjt qhp qr qr;have x : chkF one1 ⟨1,0,0⟩ = 0:=qaa qr
  have j : chkF [({Lo:=({X:=0,Y:=0,Z:=0} : qg),Hi:=({X:=0,Y:=0,Z:=0} : qg)} : qh)] ⟨0,0,1⟩ = 8:=by
    unfold chkF;rw [qq (by rw [qjr];decide),qjr]
  have m : chkF [] ⟨0,0,1⟩ = 0:=qcz qs7 qe qr;have d : chkF [bx 0 0 0 1 2 1,bx 1 0 0 2 1 1] ⟨0,1,0⟩ = 0:=qcz (q9o qr) qr qr;have k : shL one1 1 ⟨0,0,1⟩ = []:=by unfold shL;rw [qq qr]
  have f1:=qgj (l:=[bx 0 0 0 31 1 1]) (p:=⟨1,1,1⟩) b1 qr;have f2:=qgj (l:=one1) (p:=⟨1,1,1⟩) y qr;have f3:=qgj (l:=one1) (p:=⟨1,1,1⟩) o qr;have f4:=qgk (p:=⟨0,1,1⟩) c qr;have t:=qgk (p:=⟨1,1,241⟩) c qr;have f:=qlh (p:=⟨1,1,2⟩) c qr;have v : decide (blk one1 ⟨1,1,2⟩ ⟨0,0,1⟩) = false:=by decide +kernel
  rw [v] at f;have q:=qgk (p:=⟨2,-1,1⟩) d qr;have s:=qtg (p:=⟨1,1,2⟩) c qr (by decide +kernel);have g:=qd9 (p:=⟨1,1,0⟩) (u:=(0,1)) c qr (by decide +kernel) qr;have h:=qd9 (p:=⟨1,1,1⟩) (u:=(0,1)) c qr (by decide +kernel) qr;have n:=qd9 (p:=⟨3,-1,1⟩) (u:=(1,2)) d qr (by decide +kernel) qr;have l1 : litR one1 ⟨0,0,0⟩ 6 ⟨0,0,1⟩ = (false,2):=by unfold litR;rw [qs (by simpa using c),qq qr]
  have l2 : litR one1 ⟨1,0,0⟩ 0 ⟨0,0,1⟩ = (false,6):=by unfold litR;rw [qs (by simpa using c),qs qr,qs qr]
  have s1:=qp5 (z:=0) x qr;have r:=qp5 (z:=31) c qr;have s3:=qib (z:=1) c qr k qr;have n1:=qsq j qr;have n2:=qk9 (a:=0) (b:=0) m (by decide +kernel) (by decide +kernel);unfold qdl;refine bnd rfl ?_;refine bnd rfl ?_;refine bnd rfl ?_;refine bnd rfl ?_;refine bnd ((q4h _ _ _).trans (congrArg some f1)) ?_;refine bnd rfl ?_;refine bnd ((q4h _ _ _).trans (congrArg some f2)) ?_;refine bnd rfl ?_;refine bnd rfl ?_;refine bnd ((q4h _ _ _).trans (congrArg some f3)) ?_;refine bnd rfl ?_;refine bnd ((q4h _ _ _).trans (congrArg some f4)) ?_;refine bnd rfl ?_;refine bnd ((q4h _ _ _).trans (congrArg some t)) ?_;refine bnd rfl ?_;refine bnd ((q4h _ _ _).trans (congrArg some f)) ?_;refine bnd rfl ?_;refine bnd ((q95 _ _ _).trans (congrArg some s)) ?_;refine bnd rfl ?_;refine bnd ((q95 _ _ _).trans (congrArg some g)) ?_;refine bnd rfl ?_;refine bnd ((q95 _ _ _).trans (congrArg some h)) ?_;refine bnd rfl ?_;refine bnd ((qca _ _ qr _).trans (congrArg some l1)) ?_;refine bnd rfl ?_;refine bnd ((qca _ _ qr _).trans (congrArg some l2)) ?_;refine bnd rfl ?_;refine bnd ((q99 _ _ _).trans (congrArg some s1)) ?_;refine bnd ((q99 _ _ _).trans (congrArg some r)) ?_;refine bnd ((q99 _ _ _).trans (congrArg some s3)) ?_;refine bnd ((qf2 _ _).trans (congrArg some n1)) ?_;refine bnd ((qf2 _ _).trans (congrArg some n2)) ?_;refine bnd rfl ?_;refine bnd rfl ?_;refine bnd rfl ?_;refine bnd rfl ?_;refine bnd ((q4h _ _ _).trans (congrArg some q)) ?_;refine bnd rfl ?_;refine bnd rfl ?_;refine bnd ((q95 _ _ _).trans (congrArg some n)) ?_;refine bnd qj4 ?_
  iterate 25 refine bnd (a:=true) rfl ?_
  rfl
end Go.Sh
namespace Go.Sh
open Go Go.Am
theorem qth (l : List qh) (d : qg) : ∃ b,qa2 l d = some b∧(b = true→l.length≤6∧(∀ b∈l,inV b.Lo 9∧inV b.Hi 9)∧chkF l d = 0):=by
  unfold qa2;obtain ⟨b,f,g⟩:=qhj l;rw [f,qee];by_cases a : (l.length : Int)≤6
  · rw [Qb a]
    cases b with
    | false=>exact ⟨false,rfl,fun h=>by cases h⟩
    | true=>
      simp only [qz,qj];refine ⟨_,rfl,fun h=>?_⟩;have c:=(g rfl).2 q0;exact ⟨c.1,c.2,by simpa using h⟩
  · rw [Q7 a];exact ⟨false,rfl,fun h=>by cases h⟩
instance q15h (l : List qh) (p d : qg) (q : Rat) : Decidable (∃ b∈l,Yq (axB b p d) q):=inferInstance
theorem qqk {l : List qh} {p d : qg} (c : l.length≤1000000) (hb : ∀ b∈l,K9 b) (f : Yy p d) {q : Rat} (hq : smW q) : q56 l p d (ofR q) = some (decide (∃ b∈l,Yq (axB b p d) q)):=by
  unfold q56
  rcases U5 l (fun b=>decide (Yq (axB b p d) q)) (fun k _=>true) () (q6u l p d (ofR q)) (fun k a=>by
    simp only [q6u,dlt a,qz,Qw a,qj,qoc (hb _ (Ks a)) f hq,w64s a c]
    by_cases h : Yq (axB l[k] p d) q <;> simp [h]) (by simp only [q6u,dnl,qy]) with ⟨h1,h2⟩ | ⟨k,a,hc,_,h2⟩
  · rw [h2,Q7];rfl;rintro ⟨b,hb,h⟩;have:=h1 b hb;simp [h] at this
  · rw [h2,Qb ⟨l[k],Ks a,by simpa using hc⟩];rfl
theorem ql2 {p d : qg} : ∀ (l : List qh) (o : Option Rat) (q : Rat),l.foldl (fun m b=>minO m (hitT (axB b p d))) o = some q→(o = some q∨∃ b∈l,hitT (axB b p d) = some q)∧(∀ x,o = some x→q≤x)∧∀ b∈l,∀ x,hitT (axB b p d) = some x→q≤x
  | [],o,q,h=>⟨.inl h,fun x f=>by rw [List.foldl_nil] at h;rw [h] at f;cases f;exact Rat.le_refl,qe⟩
  | b::l,o,q,h=>by
    rw [List.foldl_cons] at h
    obtain ⟨a,k,n⟩:=ql2 l _ q h
    cases o with
    | none=>
      refine ⟨?_,qe,fun c j x f=>?_⟩
      · rcases a with a | ⟨c,j,a⟩
        · exact .inr ⟨b,qe,a⟩
        · exact .inr ⟨c,by simp [j],a⟩
      · rcases List.mem_cons.1 j with rfl | j
        · exact k x f
        · exact n c j x f
    | some y=>
      cases hb : hitT (axB b p d) with
      | none=>
        rw [hb] at a k
        refine ⟨?_,fun x f=>k x f,fun c j x f=>?_⟩
        · rcases a with a | ⟨c,j,a⟩
          · exact .inl a
          · exact .inr ⟨c,by simp [j],a⟩
        · rcases List.mem_cons.1 j with rfl | j
          · rw [hb] at f;cases f
          · exact n c j x f
      | some z=>
        rw [hb] at a k
        have r:=k (min y z) rfl
        refine ⟨?_,fun x f=>by cases f;grind,fun c j x f=>?_⟩
        · rcases a with a | ⟨c,j,a⟩
          · have a : min y z = q:=q6a a
            by_cases g : y≤z
            · exact .inl (by rw [← a];congr 1;grind)
            · exact .inr ⟨b,qe,by rw [hb,← a];congr 1;grind⟩
          · exact .inr ⟨c,by simp [j],a⟩
        · rcases List.mem_cons.1 j with rfl | j
          · rw [hb] at f;cases f;grind
          · exact n c j x f
theorem qkd {b : qh} {p d : qg} (g : dirV d) : ∀ x∈Zb (axB b p d),∃ n m : Int,0 < m∧m≤16∧x = fr n m:=by
  have key : ∀ (a : Int × Int × Int × Int) (r : AxL),(-8≤a.2.2.2∧a.2.2.2≤8)→(∀ x∈Zb r,∃ n m : Int,0 < m∧m≤16∧x = fr n m)→∀ x∈Zb (a::r),∃ n m : Int,0 < m∧m≤16∧x = fr n m:=by
    intro a r k h x c;rw [Zb] at c;by_cases j : a.2.2.2 = 0
    · rw [qq j] at c;exact h x c
    · rw [qs j] at c;unfold Jk farA at c;by_cases f : 0 < a.2.2.2
      · rw [qq f,qq f] at c;rcases List.mem_cons.1 c with rfl | c
        · exact ⟨_,_,q0,q0,rfl⟩
        · rcases List.mem_cons.1 c with rfl | c
          · exact ⟨_,_,q0,q0,rfl⟩
          · exact h x c
      · rw [qs f,qs f] at c;rcases List.mem_cons.1 c with rfl | c
        · exact ⟨_,_,q0,q0,rfl⟩
        · rcases List.mem_cons.1 c with rfl | c
          · exact ⟨_,_,q0,q0,rfl⟩
          · exact h x c
  exact key _ _ g.1 (key _ _ g.2.1 (key _ _ g.2.2 (by simp [Zb])))
theorem q13t {b : qh} {p d : qg} (s : dirV d) (o : nzV d) {q : Rat} (h : hitT (axB b p d) = some q) : Yq (axB b p d) (q + 1 / 1000)∧0≤q:=by
  obtain ⟨hi,k⟩:=q6n (q57 (b:=b) (p:=p) o);have l:=q6v (axB b p d);unfold hitT at h;rw [k] at h;simp only at h;split at h
  · rename_i g;have hq:=q6a h;obtain ⟨v,f,p2,q2,e2⟩:=qkd s hi (qde _ k)
    obtain ⟨u,c,r,q1,t⟩ : ∃ n m : Int,0 < m∧m≤16∧loT (axB b p d) = fr n m:=by
      rcases qdo (axB b p d) with e | e
      · exact ⟨0,1,qr,qr,by rw [e];unfold fr;grind⟩
      · exact qkd s _ e
    have j:=g.2;rw [t,e2,q1z r p2] at j
    have e3 : (1 / 1000 : Rat) = fr 1 1000:=by
      unfold fr;rw [show ((1 : Int) : Rat) = 1 from rfl,show ((1000 : Int) : Rat) = 1000 from rfl]
    have a : loT (axB b p d) + 1 / 1000 < hi:=by
      rw [t,e2,e3,qgf r qr,q1z q0 p2];have z:=mulb (x:=c) (A:=16) (y:=f) (B:=16) q0 q0;have a1 : (u * 1000 + 1 * c) * f = 1000 * (u * f) + c * f:=by grind
      have a2 : v * (c * 1000) = 1000 * (v * c):=by grind
      rw [a1,a2];omega
    rw [← hq];refine ⟨(q6p k (by grind)).2 ⟨g.1,by grind,a⟩,l⟩
  · cases h
theorem q15v (l : List qh) (p d : qg) (n m : Int) : qdn l p d n m = some true:=by
  unfold qdn;obtain ⟨b,hb,aj⟩:=qth l d;rw [qj4,qj,hb,qj,qy3]
  cases b with
  | false=>rfl
  | true=>
    obtain ⟨h6,h9,hc⟩:=aj rfl;by_cases s : fitV p d∧inV p 240
    · rw [Qb s];simp only [Bool.not_true,qy,qj];by_cases g1 : n < 1
      · rw [Qb g1];rfl
      rw [Q7 g1];by_cases g2 : m < 1
      · rw [Qb g2];rfl
      rw [Q7 g2];by_cases g3 : n > 1000
      · rw [Qb g3];rfl
      rw [Q7 g3];by_cases g4 : m > 1000
      · rw [Qb g4];rfl
      rw [Q7 g4];simp only [qy,qj];have hs:=Ug hc;have v:=q7r hs s.2;have hl:=Ja hs.ck
      have ht : smR (fr n m):=by
        have:=Jl (n:=n) (m:=m) (N:=1000) (M:=1000) q0 q0 q0;unfold smR;omega
      have o : 0 < fr n m:=by
        have : fr 0 1 < fr n m:=(q1z qr q0).2 q0;rw [show fr 0 1 = 0 by unfold fr;grind] at this;exact this
      rw [Q3 (x:=n) q0,Q3 (x:=m) q0,qdz q0 q0 q0,qj];simp only [show ((0 : Int) != 0) = false from rfl,qy];rw [q4h,qlh hc s,qj,q95,qj,qqk q0 hs.bx v ht.w]
      have ac : q3a l p d = (match firstT l p d with | none=>(({Num:=0,Den:=0} : Qr),6) | some q=>(ofR q,0)):=by
        unfold q3a;rw [qs (by simpa using hc),qq s];rfl
      rw [ac]
      cases hT : firstT l p d with
      | none=>
        have t : ¬ blk l p d:=fun h=>by rw [qjj,hT] at h;cases h
        rw [Q7 t,Q7]
        · rfl
        · rintro ⟨b,f,h⟩;exact t ((qji hs.nz).2 ⟨b,f,_,o,h⟩)
      | some q=>
        have ai : blk l p d:=by rw [qjj,hT];rfl
        obtain ⟨r,_,h3⟩:=ql2 l none q hT
        obtain ⟨b,f,hq⟩ : ∃ b∈l,hitT (axB b p d) = some q:=by
          rcases r with r | r
          · cases r
          · exact r
        have g:=qu7 (hs.bx b f) v hs.nz q hq;obtain ⟨j,af⟩:=q13t hs.dr hs.nz hq
        have e3 : (1 / 1000 : Rat) = fr 1 1000:=by
          unfold fr;rw [show ((1 : Int) : Rat) = 1 from rfl,show ((1000 : Int) : Rat) = 1000 from rfl]
        have hk : ({Num:=1,Den:=1000} : Qr) = ofR (1 / 1000):=by rw [e3,qa7 qr]
        have ad : smR (1 / 1000):=by
          have:=Jl (n:=1) (m:=1000) (N:=1) (M:=1000) qr qr qr;rw [← e3] at this;unfold smR;omega
        have z : smW (q + 1 / 1000):=by
          obtain ⟨a1,a2⟩:=g;have d1:=Ym q;have p1:=Jl (n:=q.num * 1000 + 1 * (q.den : Int)) (m:=(q.den : Int) * 1000) (N:=100000000) (M:=20000000) q0 q0 q0
          have ao : (q.den : Int)≤16:=by
            rw [← (q6o (l:=axB b p d)).1] at hq
            cases k : hitC (axB b p d) with
            | none=>rw [k] at hq;cases hq
            | some u=>
              rw [k] at hq;cases hq;obtain ⟨⟨c1,c2⟩,c3,c4⟩:=qgv (hs.bx b f) v hs.nz u k;exact (qgh q0 c1 c2).2.2
          have p2:=Jl (n:=q.num * 1000 + 1 * (q.den : Int)) (m:=(q.den : Int) * 1000) (N:=100000000) (M:=16000) q0 q0 q0;have e4 : fr (q.num * 1000 + 1 * (q.den : Int)) ((q.den : Int) * 1000) = q + 1 / 1000:=by rw [← qgf d1 qr,q14,e3]
          rw [e4] at p2;unfold smW;omega
        rw [Qb ai];simp only [Bool.not_true];rw [hk,qht g ad];refine bnd (a:=false) rfl ?_;rw [qy,qy];refine bnd (a:=(ofR (q + 1 / 1000),0)) rfl ?_;refine bnd (a:=true) rfl ?_;refine bnd (a:=true) (by rw [qz,Qb (show (ofR q).Num ≥ 0 from Rat.num_nonneg.2 af)]) ?_;refine bnd (a:=true) rfl ?_;refine bnd (a:=true) (by rw [qz,qqk q0 hs.bx v z,Qb (show ∃ b∈l,Yq (axB b p d) (q + 1 / 1000) from ⟨b,f,j⟩)];rfl) ?_;rw [qz];by_cases y : ∃ b∈l,Yq (axB b p d) (fr n m)
        · rw [Qb y]
          have ab : q < fr n m:=by
            obtain ⟨c,al,ag⟩:=y;obtain ⟨hi,hh⟩:=q6n (q57 (b:=c) (p:=p) hs.nz);have ah:=(q6p hh o).1 ag
            have : hitT (axB c p d) = some (loT (axB c p d)):=by
              unfold hitT;rw [hh];simp only;rw [qq ⟨ah.1,by grind⟩]
            have:=h3 c al _ this;grind
          rw [qhw g ht,Qb ab];rfl
        · rw [Q7 y];rfl
    · rw [Q7 s];rfl
end Go.Sh
