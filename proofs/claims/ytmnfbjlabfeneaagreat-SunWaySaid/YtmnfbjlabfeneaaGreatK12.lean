/- Su6 Su7 Su8 Su9 Su10 Su11 Rs1 Rs2 Rs3 Qb1 Rs4 -/
import Derived.Test.YtmnfbjlabfeneaaGreatK11
namespace Go.Sh
open Go Go.Am
def befC (a b : Int × Int) : Bool:=decide (a.1 * b.2 < b.1 * a.2)
def nfC (a : Int × Int × Int × Int) : Int × Int × Int:=if a.2.2.2 < 0 then (-(2 * a.2.1 - a.2.2.1),-(2 * a.1 - a.2.2.1),-a.2.2.2) else (2 * a.1 - a.2.2.1,2 * a.2.1 - a.2.2.1,a.2.2.2)
def minC (f : Int × Int) : Option (Int × Int)→Int × Int
  | none=>f
  | some u=>if befC f u = true then f else u
def Kv (s : Option ((Int × Int) × Option (Int × Int))) (a : Int × Int × Int × Int) : Option ((Int × Int) × Option (Int × Int)):=match s with
  | none=>none
  | some (f,t)=>if a.2.2.2 = 0 then (if 0≤2 * a.1 - a.2.2.1∨2 * a.2.1 - a.2.2.1≤0 then none else some (f,t)) else
      some (if befC f ((nfC a).1,2 * (nfC a).2.2) = true then ((nfC a).1,2 * (nfC a).2.2) else f,
        some (minC ((nfC a).2.1,2 * (nfC a).2.2) t))
def hitC (l : List (Int × Int × Int × Int)) : Option (Int × Int):=match l.foldl Kv (some ((0,1),none)) with
  | some (f,some t)=>if befC f t = true then some f else none
  | _=>none
def valC (a : Int × Int) : Rat:=fr a.1 a.2
theorem qcu {a b : Int × Int} (c : 0 < a.2) (hb : 0 < b.2) : befC a b = true↔valC a < valC b:=by
  unfold befC valC;rw [decide_eq_true_iff,q1z c hb]
def minO : Option Rat→Option Rat→Option Rat
  | none,b=>b
  | some a,none=>some a
  | some a,some b=>some (min a b)
theorem qvh {a : Int × Int × Int × Int} (h : a.2.2.2≠0) : valC ((nfC a).1,2 * (nfC a).2.2) = Jk a.1 a.2.1 a.2.2.1 a.2.2.2∧valC ((nfC a).2.1,2 * (nfC a).2.2) = farA a.1 a.2.1 a.2.2.1 a.2.2.2∧0 < (nfC a).2.2:=by
  unfold nfC Jk farA valC;by_cases b : a.2.2.2 < 0
  · rw [qq b,qs q0,qs q0];refine ⟨?_,?_,by show (0 : Int) < -a.2.2.2;omega⟩ <;> (simp only;congr 1;omega)
  · rw [qs b,qq q0,qq q0];exact ⟨rfl,rfl,by show (0 : Int) < a.2.2.2;omega⟩
theorem qla : ∀ l : List (Int × Int × Int × Int),l.foldl Kv none = none
  | []=>rfl
  | a::l=>qla l
theorem qdb : ∀ (l : List (Int × Int × Int × Int)) (f : Int × Int) (t : Option (Int × Int)),0 < f.2→(∀ u,t = some u→0 < u.2)→0≤valC f→
    (l.foldl Kv (some (f,t)) = none∧¬ Jt l)∨∃ k j,l.foldl Kv (some (f,t)) = some (k,j)∧Jt l∧0 < k.2∧(∀ u,j = some u→0 < u.2)∧valC k = max (valC f) (loT l)∧j.map valC = minO (t.map valC) (hiT l)
  | [],f,t,hf,ht,h0=>.inr ⟨f,t,rfl,by simp [Jt],hf,ht,by unfold loT;grind,by cases t <;> rfl⟩
  | a::l,f,t,hf,ht,h0=>by
    rw [List.foldl_cons]
    by_cases d : a.2.2.2 = 0
    · by_cases hb : 0≤2 * a.1 - a.2.2.1∨2 * a.2.1 - a.2.2.1≤0
      · refine .inl ⟨?_,fun h=>?_⟩
        · rw [show Kv (some (f,t)) a = none by simp only [Kv,qq d,qq hb]];exact qla l
        · have:=h a qe d;omega
      · rw [show Kv (some (f,t)) a = some (f,t) by simp only [Kv,qq d,qs hb]]
        have g : Jt (a::l)↔Jt l:=by
          constructor
          · intro h b hb;exact h b (by simp [hb])
          · intro h b c;rcases List.mem_cons.1 c with rfl | c
            · intro _;omega
            · exact h b c
        rw [g,loT,qq d,hiT,qq d]
        exact qdb l f t hf ht h0
    · obtain ⟨r,s,n3⟩:=qvh d
      generalize p : ((nfC a).1,2 * (nfC a).2.2) = nn at r
      generalize q : ((nfC a).2.1,2 * (nfC a).2.2) = ff at s
      have y : 0 < nn.2:=by rw [← p];show (0 : Int) < 2 * (nfC a).2.2;omega
      have o : 0 < ff.2:=by rw [← q];show (0 : Int) < 2 * (nfC a).2.2;omega
      have g : Jt (a::l)↔Jt l:=by
        constructor
        · intro h b hb;exact h b (by simp [hb])
        · intro h b c;rcases List.mem_cons.1 c with rfl | c
          · intro e;exact absurd e d
          · exact h b c
      have hs : Kv (some (f,t)) a = some (if befC f nn = true then nn else f,some (minC ff t)):=by
        simp only [Kv,qs d,p,q]
      rw [hs,g,loT,qs d,hiT,qs d]
      have q1 : 0 < (if befC f nn = true then nn else f).2:=by split <;> assumption
      have v : valC (if befC f nn = true then nn else f) = max (valC f) (valC nn):=by
        have:=qcu hf y;by_cases hb : befC f nn = true
        · rw [qq hb];have:=this.1 hb;grind
        · rw [qs hb];have : ¬ valC f < valC nn:=fun h=>hb (this.2 h);grind
      have x : ∀ u,(some (minC ff t) : Option (Int × Int)) = some u→0 < u.2:=by
        intro u m
        cases t with
        | none=>cases m;exact o
        | some w=>
          have n:=ht w rfl;have m:=q6a m;rw [← m];show 0 < (if befC ff w = true then ff else w).2;split <;> assumption
      have z : (some (minC ff t) : Option (Int × Int)).map valC = minO (t.map valC) (some (valC ff)):=by
        cases t with
        | none=>rfl
        | some w=>
          have n:=ht w rfl;have:=qcu o n;show some (valC (if befC ff w = true then ff else w)) = some (min (valC w) (valC ff));by_cases hb : befC ff w = true
          · rw [qq hb];have:=this.1 hb;congr 1;grind
          · rw [qs hb];have : ¬ valC ff < valC w:=fun h=>hb (this.2 h);congr 1;grind
      rcases qdb l _ _ q1 x (by rw [v];grind) with h | ⟨k,j,h1,h2,h3,h4,h5,h6⟩
      · exact .inl h
      · refine .inr ⟨k,j,h1,h2,h3,h4,?_,?_⟩
        · rw [h5,v,← r];grind
        · rw [h6,z,← s]
          cases hiT l <;> cases t <;> simp only [minO,Option.map_none,Option.map_some] <;> (try congr 1;grind)
open Classical in
theorem q6o {l : List (Int × Int × Int × Int)} : (hitC l).map valC = hitT l∧∀ u,hitC l = some u→0 < u.2∧0≤valC u:=by
  have g : valC (0,1) = 0:=by unfold valC fr;grind
  unfold hitC hitT;rcases qdb l (0,1) none qr qe (by rw [g];grind) with ⟨f,d⟩ | ⟨b,n,f,d,j,m,c,a⟩
  · rw [f];refine ⟨?_,qe⟩
    cases hiT l with
    | none=>rfl
    | some h=>show none = if Jt l∧loT l < h then some (loT l) else none;rw [qs fun q=>d q.1]
  · rw [f];have c : valC b = loT l:=by rw [c,g];have:=q6v l;grind
    cases n with
    | none=>
      have a : none = hiT l:=a;rw [← a];exact ⟨rfl,qe⟩
    | some u=>
      have a : some (valC u) = hiT l:=a;have o:=m u rfl;rw [← a];show Option.map valC (if befC b u = true then some b else none) = (if Jt l∧loT l < valC u then some (loT l) else none)∧∀ w,(if befC b u = true then some b else none) = some w→_;have hb:=qcu j o;rw [c] at hb;by_cases hq : befC b u = true
      · rw [qq hq,qq ⟨d,hb.1 hq⟩];refine ⟨by rw [← c];rfl,fun w k=>?_⟩;cases k;exact ⟨j,by rw [c];exact q6v l⟩
      · rw [qs hq,qs fun h=>hq (hb.2 h.2)];exact ⟨rfl,qe⟩
end Go.Sh
namespace Go.Sh
open Go Go.Am
abbrev axB (b : qh) (p d : qg) : AxL:=[(b.Lo.X,b.Hi.X,p.X,d.X),(b.Lo.Y,b.Hi.Y,p.Y,d.Y),(b.Lo.Z,b.Hi.Z,p.Z,d.Z)]
theorem q3m {a b : Int} : ((a : Rat)≤(b : Rat))↔a≤b:=by constructor <;> intro h <;> exact_mod_cast h
theorem q53 {b : qh} {p d : qg} {t : Rat} : Yq (axB b p d) t↔inAx b.Lo.X b.Hi.X p.X d.X t∧inAx b.Lo.Y b.Hi.Y p.Y d.Y t∧inAx b.Lo.Z b.Hi.Z p.Z d.Z t:=by
  simp [Yq,axB]
def q10 (G S : Rat→Prop) : Option Rat→Prop
  | none=>∀ t,0 < t→G t→¬ S t
  | some T=>0≤T∧(∀ t,0 < t→G t→S t→T < t)∧∃ e,T < e∧∀ t,T < t→t < e→G t→S t
def qqq (G : Rat→Prop) : Prop:=∀ a b : Rat,a < b→∃ t,a < t∧t < b∧G t
theorem q10.congr {G S d : Rat→Prop} {o : Option Rat} (h : ∀ t,0 < t→G t→(S t↔d t)) (f : q10 G S o) : q10 G d o:=by
  cases o with
  | none=>exact fun t c g s=>f t c g ((h t c g).2 s)
  | some T=>
    obtain ⟨l,k,e,j,m⟩:=f;exact ⟨l,fun t c g s=>k t c g ((h t c g).2 s),e,j,fun t a b g=>(h t (by grind) g).1 (m t a b g)⟩
theorem q10.or {G S j : Rat→Prop} {o h : Option Rat} (f : q10 G S o) (d : q10 G j h) : q10 G (fun t=>S t∨j t) (minO o h):=by
  cases o with
  | none=>
    refine d.congr fun t c g=>?_;have:=f t c g;simp [this]
  | some T=>
    cases h with
    | none=>
      refine f.congr fun t c g=>?_;have:=d t c g;simp [this]
    | some T'=>
      obtain ⟨r,n,e,q,l⟩:=f;obtain ⟨k0,k,p,u,m⟩:=d;refine ⟨by grind,fun t c g s=>?_,?_⟩
      · rcases s with s | s
        · have:=n t c g s;grind
        · have:=k t c g s;grind
      · by_cases v : T≤T'
        · exact ⟨e,by grind,fun t a b g=>.inl (l t (by grind) b g)⟩
        · exact ⟨p,by grind,fun t a b g=>.inr (m t (by grind) b g)⟩
theorem q10.le {G S d : Rat→Prop} {T c : Rat} (hd : qqq G) (h : ∀ t,0 < t→G t→S t→d t) (f : q10 G S (some T)) (k : q10 G d (some c)) : c≤T:=by
  obtain ⟨n,r,e,m,l⟩:=f;obtain ⟨k0,j,s,p,q⟩:=k;refine Classical.byContradiction fun o=>?_;obtain ⟨t,a,b,g⟩:=hd T (min e c) (by grind);have:=j t (by grind) g (h t (by grind) g (l t a (by grind) g));grind
noncomputable def firstT (l : List qh) (p d : qg) : Option Rat:=l.foldl (fun m b=>minO m (hitT (axB b p d))) none
def nzV (d : qg) : Prop:=d.X≠0∨d.Y≠0∨d.Z≠0
theorem q57 {b : qh} {p d : qg} (h : nzV d) : ∃ a∈axB b p d,a.2.2.2≠0:=by
  rcases h with h | h | h
  · exact ⟨(b.Lo.X,b.Hi.X,p.X,d.X),by simp [axB],h⟩
  · exact ⟨(b.Lo.Y,b.Hi.Y,p.Y,d.Y),by simp [axB],h⟩
  · exact ⟨(b.Lo.Z,b.Hi.Z,p.Z,d.Z),by simp [axB],h⟩
def fitA (p d : Int) : Prop:=d = 0→p % 2≠0
def fitV (p d : qg) : Prop:=fitA p.X d.X∧fitA p.Y d.Y∧fitA p.Z d.Z
def dirV (d : qg) : Prop:=(-8≤d.X∧d.X≤8)∧(-8≤d.Y∧d.Y≤8)∧(-8≤d.Z∧d.Z≤8)
def blk (l : List qh) (p d : qg) : Prop:=∃ b∈l,(hitC (axB b p d)).isSome = true
instance (l : List qh) (p d : qg) : Decidable (blk l p d):=inferInstanceAs (Decidable (∃ b∈l,(hitC (axB b p d)).isSome = true))
theorem ql9 {α : Type} (g : α→Option Rat) : ∀ (l : List α) (o : Option Rat),(l.foldl (fun m b=>minO m (g b)) o).isSome = true↔o.isSome = true∨∃ b∈l,(g b).isSome = true
  | [],o=>by simp
  | b::l,o=>by
    rw [List.foldl_cons,ql9 g l]
    have : (minO o (g b)).isSome = true↔o.isSome = true∨(g b).isSome = true:=by cases o <;> cases g b <;> simp [minO]
    rw [this];simp [or_assoc]
theorem qjj {l : List qh} {p d : qg} : blk l p d↔(firstT l p d).isSome = true:=by
  unfold firstT blk;rw [ql9];have : ∀ b : qh,(hitC (axB b p d)).isSome = (hitT (axB b p d)).isSome:=fun b=>by rw [← (q6o (l:=axB b p d)).1,Option.isSome_map]
  simp [this]
end Go.Sh
namespace Go.Sh
open Go Go.Am
theorem mulb {x y A B : Int} (g : -A≤x∧x≤A) (c : -B≤y∧y≤B) : -(A * B)≤x * y∧x * y≤A * B:=by
  have d : (x + A) * (B - y) ≥ 0:=Int.mul_nonneg q0 q0;have a : (A - x) * (B + y) ≥ 0:=Int.mul_nonneg q0 q0;have f : (A - x) * (B - y) ≥ 0:=Int.mul_nonneg q0 q0;have b : (A + x) * (B + y) ≥ 0:=Int.mul_nonneg q0 q0;constructor
  · grind
  · grind
theorem qqg {x y A B : Int} (b : -A≤x∧x≤A) (a : -B≤y∧y≤B) (h : A * B≤9000000000000000000) : w64 (x * y) = x * y:=by
  have:=mulb b a;exact Q3 q0
theorem qsh (a b : Int) : q72 (a,b) = some (if b = 0 then .inr a else .inl (b,Int.tmod a b)):=by
  unfold q72 qek;by_cases hb : b = 0
  · rw [qq hb];simp [hb]
  · rw [qs hb,show ((a,b).2 != 0) = true by simpa using hb];simp [hb]
theorem qnv {a b : Int} (k : -1000000000000000≤a∧a≤1000000000000000) (hb : -1000000000000000≤b∧b≤1000000000000000) : q5a a b = some (Int.gcd a b : Int):=by
  obtain ⟨x,g,h⟩:=qtb (f:=q72) 1000000000000000 (fun a b _ _=>qsh a b) _ b a rfl q0 q0
  have j : Int.gcd a b≤1000000000000000:=by
    by_cases c : a = 0
    · subst c;simp;omega
    · have:=Int.gcd_le_natAbs_left (a:=a) b c;omega
  unfold q5a;rw [g,qj];by_cases d : x < 0
  · rw [Qb d,qz,Q3 q0];congr 1;omega
  · rw [Q7 d,qy];congr 1;omega
theorem qhv {q : Rat} (b : -1000000000≤q.num∧q.num≤1000000000) (a : (q.den : Int)≤1000000000) : q2h (ofR q) = some 0:=by
  have hd:=Ym q;unfold q2h ofR;rw [Q7 (by show ¬ (q.den : Int) < 1;omega)];simp only [qy,qj];rw [Q7 q0];simp only [qy,qj];rw [Q7 q0];simp only [qy,qj];rw [Q7 q0];simp only [qy,qj];rw [qnv q0 q0,(qmq q).2];rfl
theorem qx4 {n m : Int} (a : 0 < m) (j : -1000000000000000≤n∧n≤1000000000000000) (g : m≤1000000000000000) : J2 n (Int.gcd n m : Int) = some (fr n m).num∧J2 m (Int.gcd n m : Int) = some ((fr n m).den : Int):=by
  obtain ⟨f,d⟩:=qh7 (n:=n) a;have e:=qa7 f;rw [d] at e;have c : (fr n m).num = n / (Int.gcd n m : Int):=congrArg Qr.Num e;have h : ((fr n m).den : Int) = m / (Int.gcd n m : Int):=congrArg Qr.Den e;have b:=Jl a j g;have k : 0 < Int.gcd n m:=Int.gcd_pos_of_ne_zero_right n q0;unfold J2;rw [qs q0,qs q0,Int.tdiv_eq_ediv_of_dvd (Int.gcd_dvd_left ..),Int.tdiv_eq_ediv_of_dvd (Int.gcd_dvd_right ..),← c,← h,Q3 q0,Q3 q0];exact ⟨rfl,rfl⟩
theorem qdz {n m : Int} (f : m≠0) (j : -1000000000≤n∧n≤1000000000) (k : -1000000000≤m∧m≤1000000000) : q3v n m = some (ofR (fr n m),0):=by
  unfold q3v;rw [show (m == 0) = false by simpa using f,show (n == (-9223372036854775808)) = false by simp;omega,show (m == (-9223372036854775808)) = false by simp;omega];simp only [qy,qj]
  have key : ∀ n m : Int,0 < m→(-1000000000≤n∧n≤1000000000)→m≤1000000000→((q5a n m).bind fun c=>(J2 n c).bind fun a=>(J2 m c).bind fun d=>(q2h ({Num:=a,Den:=d} : Qr)).bind fun g=>cond (g != 0) (some (({Num:=0,Den:=0} : Qr),(16 : Int))) (some (({Num:=a,Den:=d} : Qr),0))) = some (ofR (fr n m),0):=by
    intro n m f j k;obtain ⟨l,o⟩:=qx4 f (n:=n) q0 q0;have b:=Jl f j k;rw [qnv q0 q0,qj,l,qj,o,qj];have:=qhv (q:=fr n m) b.1 b.2.2;unfold ofR at this;rw [this];rfl
  by_cases h : m < 0
  · rw [Qb h];simp only [qz,qj];rw [Q3 q0,Q3 q0,← qgg n m,show 0 - n = -n by omega,show 0 - m = -m by omega];exact key (-n) (-m) q0 q0 q0
  · rw [Q7 h];simp only [qy,qj];exact key n m q0 j q0
theorem qnt {a b : Rat} (c : -1000000000≤a.num∧a.num≤1000000000) (f : (a.den : Int)≤1000000000) (d : -1000000000≤b.num∧b.num≤1000000000) (g : (b.den : Int)≤1000000000) : q3u (ofR a) (ofR b) = some 0:=by
  unfold q3u;rw [qhv c f,qhv d g];rfl
def smR (q : Rat) : Prop:=(-20000≤q.num∧q.num≤20000)∧(q.den : Int)≤20000
def smM (q : Rat) : Prop:=(-50000≤q.num∧q.num≤50000)∧(q.den : Int)≤20000
def smW (q : Rat) : Prop:=(-1000000000≤q.num∧q.num≤1000000000)∧(q.den : Int)≤1000000
theorem smR.w {q : Rat} (h : smR q) : smW q:=by unfold smR at h;unfold smW;omega
theorem smM.w {q : Rat} (h : smM q) : smW q:=by unfold smM at h;unfold smW;omega
theorem qht {a b : Rat} (d : smR a) (hb : smR b) : q59 (ofR a) (ofR b) = some (ofR (a + b),0):=by
  obtain ⟨f,k⟩:=d;obtain ⟨h,l⟩:=hb;have g:=Ym a;have c:=Ym b;have j:=mulb f (y:=(b.den : Int)) (B:=20000) q0;have p2:=mulb h (y:=(a.den : Int)) (B:=20000) q0;have p3:=mulb (x:=(a.den : Int)) (A:=20000) (y:=(b.den : Int)) (B:=20000) q0 q0;have p4 : 0 < (a.den : Int) * (b.den : Int):=Int.mul_pos g c;unfold q59;rw [qnt q0 q0 q0 q0];simp only [qj,show ((0 : Int) != 0) = false from rfl,qy];rw [show (ofR a).Num = a.num from rfl,show (ofR a).Den = (a.den : Int) from rfl,show (ofR b).Num = b.num from rfl,show (ofR b).Den = (b.den : Int) from rfl];rw [Q3 (x:=a.num * (b.den : Int)) q0,Q3 (x:=b.num * (a.den : Int)) q0,Q3 (x:=(a.den : Int) * (b.den : Int)) q0,Q3 q0];rw [qdz q0 q0 q0,qfi];rfl
theorem qx5 {a b : Rat} (d : smM a) (hb : (-10≤b.num∧b.num≤10)∧(b.den : Int)≤10) : qab (ofR a) (ofR b) = some (ofR (a * b),0):=by
  obtain ⟨f,k⟩:=d;obtain ⟨h,l⟩:=hb;have g:=Ym a;have c:=Ym b;have j:=mulb f h;have p3:=mulb (x:=(a.den : Int)) (A:=20000) (y:=(b.den : Int)) (B:=10) q0 q0;have p4 : 0 < (a.den : Int) * (b.den : Int):=Int.mul_pos g c;unfold qab;rw [qnt q0 q0 q0 q0];simp only [qj,show ((0 : Int) != 0) = false from rfl,qy];rw [show (ofR a).Num = a.num from rfl,show (ofR a).Den = (a.den : Int) from rfl,show (ofR b).Num = b.num from rfl,show (ofR b).Den = (b.den : Int) from rfl];rw [Q3 (x:=a.num * b.num) q0,Q3 (x:=(a.den : Int) * (b.den : Int)) q0];rw [qdz q0 q0 q0,qve];rfl
theorem qhw {a b : Rat} (c : smR a) (hb : smR b) : q71 (ofR a) (ofR b) = some (decide (a < b)):=by
  obtain ⟨d,j⟩:=c;obtain ⟨f,k⟩:=hb;have l:=Ym a;have g:=Ym b;have h:=mulb d (y:=(b.den : Int)) (B:=20000) q0;have p2:=mulb f (y:=(a.den : Int)) (B:=20000) q0;unfold q71;rw [show (ofR a).Num = a.num from rfl,show (ofR a).Den = (a.den : Int) from rfl,show (ofR b).Num = b.num from rfl,show (ofR b).Den = (b.den : Int) from rfl];rw [Q3 (x:=a.num * (b.den : Int)) q0,Q3 (x:=b.num * (a.den : Int)) q0];congr 1;exact decide_eq_decide.2 (qmk a b)
theorem qeh {n m : Int} (b : m≠0) (c : -1000000000≤n∧n≤1000000000) (a : -1000000000≤m∧m≤1000000000) : q44 n m = some (ofR (fr n m)):=by
  unfold q44;rw [qdz b c a];rfl
theorem qoh {n : Int} (h : -1000000000000000≤n∧n≤1000000000000000) : q7q n = some (n.natAbs : Int):=by
  unfold q7q;by_cases a : n < 0
  · rw [Qb a,qz,J5,J5];congr 1;omega
  · rw [Q7 a,qy,J5];congr 1;omega
theorem qtu (N : Nat) (a b : Nat) : q7p ((a : Int),(b : Int)) = some (if b = 0 then .inr (a : Int) else .inl ((b : Int),((a % b : Nat) : Int))):=by
  unfold q7p remK;by_cases hb : b = 0
  · rw [qq hb];simp [hb]
  · rw [qs hb,show ((((a : Int),(b : Int)).2) != 0) = true by simp;omega];simp only [qz];rw [qs q0];simp only [qj,Option.some.injEq,Sum.inl.injEq,Prod.mk.injEq,true_and]
    first
      | (rw [Int.tmod_eq_emod_of_nonneg q0];omega)
      | omega
theorem qyc (a b : Nat) : qat (a : Int) (b : Int) = some ((Nat.gcd a b : Nat) : Int):=by
  unfold qat;rw [qta (f:=q7p) (max a b) (fun a b _ _=>qtu 0 a b) b a q0 q0];rfl
theorem qya {n m : Int} (f : 0 < m) (p : -1000000000≤n∧n≤1000000000) (o : m≤1000000000) : qas n m = some (ofR (fr n m),0):=by
  have b:=Jl f p o;obtain ⟨r,l⟩:=qh7 (n:=n) f;have e:=qa7 r;rw [l] at e;have j : (fr n m).num = n / (Int.gcd n m : Int):=congrArg Qr.Num e;have t : ((fr n m).den : Int) = m / (Int.gcd n m : Int):=congrArg Qr.Den e;have v : 0 < Int.gcd n m:=Int.gcd_pos_of_ne_zero_right n q0;unfold qas;rw [show (m == 0) = false by simp;omega,qoh q0,qoh q0];simp only [qy,qj];rw [qyc];simp only [qj];have c : (n.natAbs.gcd m.natAbs : Nat) = Int.gcd n m:=rfl;rw [c]
  have q : quoK .u64 (n.natAbs : Int) (Int.gcd n m : Int) = some ((fr n m).num.natAbs : Int):=by
    unfold quoK;rw [qs q0,J5];have hd : (Int.gcd n m : Int) ∣ n:=Int.gcd_dvd_left ..
    have d : (n.natAbs : Int).tdiv (Int.gcd n m : Int) = ((fr n m).num.natAbs : Int):=by
      rw [j,Int.tdiv_eq_ediv_of_nonneg q0,Int.natAbs_ediv_of_dvd hd];rfl
    rw [d];congr 1;omega
  have u : quoK .u64 (m.natAbs : Int) (Int.gcd n m : Int) = some ((fr n m).den : Int):=by
    unfold quoK;rw [qs q0,J5,show (m.natAbs : Int) = m by omega]
    have d : m.tdiv (Int.gcd n m : Int) = ((fr n m).den : Int):=by
      rw [t,Int.tdiv_eq_ediv_of_nonneg q0]
    rw [d];congr 1;omega
  rw [q,qj,u,qj];rw [Q7 q0,Q7 q0];simp only [qy,qj];rw [Q3 (x:=((fr n m).num.natAbs : Int)) q0,Q3 (x:=((fr n m).den : Int)) q0]
  have hs : (fr n m).num < 0↔n < 0:=by
    obtain ⟨a,k⟩:=Int.gcd_dvd_left (a:=n) (b:=m)
    have s : n / (Int.gcd n m : Int) = a:=by
      generalize Int.gcd n m = g at *;rw [k];exact Int.mul_ediv_cancel_left a q0
    rw [j,s];generalize Int.gcd n m = g at *;constructor
    · intro h;rw [k];exact Int.mul_neg_of_pos_of_neg q0 h
    · intro h;refine Classical.byContradiction fun y=>?_;have : 0≤(g : Int) * a:=Int.mul_nonneg q0 q0;omega
  unfold ofR;by_cases h : n < 0
  · rw [Qb h,Q7 (by omega : ¬ m < 0)];simp only [show (!(true == false)) = true from rfl,qz,qj];rw [Q3 q0];have:=hs.2 h;congr 3;omega
  · rw [Q7 h,Q7 (by omega : ¬ m < 0)];simp only [show (!(false == false)) = false from rfl,qy,qj];have : ¬ (fr n m).num < 0:=fun g=>h (hs.1 g);congr 3;omega
end Go.Sh
namespace Go.Sh
open Go Go.Am
theorem qcv {a b : Ky} (c : -100000≤a.num_∧a.num_≤100000) (f : -100000≤a.den_∧a.den_≤100000) (d : -100000≤b.num_∧b.num_≤100000) (g : -100000≤b.den_∧b.den_≤100000) : q4n a b = some (befC (a.num_,a.den_) (b.num_,b.den_)):=by
  unfold q4n befC;rw [qqg c g qr,qqg d f qr]
def axOk (a : Int × Int × Int × Int) : Prop:=(-30≤a.1∧a.1≤30)∧(-30≤a.2.1∧a.2.1≤30)∧(-1100≤a.2.2.1∧a.2.2.1≤1100)∧(-8≤a.2.2.2∧a.2.2.2≤8)
def smP (a : Int × Int) : Prop:=(-1200≤a.1∧a.1≤1200)∧(-16≤a.2∧a.2≤16)
theorem qn4 {a : Int × Int × Int × Int} (h : axOk a) : (-1200≤(nfC a).1∧(nfC a).1≤1200)∧(-1200≤(nfC a).2.1∧(nfC a).2.1≤1200)∧-8≤(nfC a).2.2∧(nfC a).2.2≤8:=by
  unfold axOk at h;unfold nfC;split <;> (simp only;omega)
theorem qv9 {f : Int × Int} {t : Option (Int × Int)} (a : smP f) (b : ∀ u,t = some u→smP u) : smP (minC f t):=by
  cases t with
  | none=>exact a
  | some u=>
    show smP (if befC f u = true then f else u);split
    · exact a
    · exact b u rfl
theorem q149 {a : Int × Int × Int × Int} {f : Int × Int} {t : Option (Int × Int)} (l : axOk a) (b : smP f) (g : ∀ u,t = some u→smP u) {d : Int × Int} {c : Option (Int × Int)} (h : Kv (some (f,t)) a = some (d,c)) : smP d∧∀ u,c = some u→smP u:=by
  have j:=qn4 l;have n : smP ((nfC a).1,2 * (nfC a).2.2):=⟨j.1,by show -16≤2 * (nfC a).2.2∧2 * (nfC a).2.2≤16;omega⟩
  have k : smP ((nfC a).2.1,2 * (nfC a).2.2):=⟨j.2.1,by show -16≤2 * (nfC a).2.2∧2 * (nfC a).2.2≤16;omega⟩
  simp only [Kv] at h;split at h
  · split at h
    · cases h
    · cases h;exact ⟨b,g⟩
  · cases h;refine ⟨?_,fun u m=>?_⟩
    · split
      · exact n
      · exact b
    · cases m;exact qv9 k g
def outC (i : Int) (tn td : Int) : Option ((Int × Int) × Option (Int × Int))→(Bool × Int × Int × Int × Int × Int) ⊕ ((Int × Int × Int × Int) ⊕ (Ky × Bool))
  | none=>.inr (.inr (({num_:=0,den_:=0} : Ky),false))
  | some (f,none)=>.inl (true,i + 1,f.1,f.2,tn,td)
  | some (f,some t)=>.inl (false,i + 1,f.1,f.2,t.1,t.2)
theorem qgy {k g h l : Int × Int × Int} {i : Int} {a : Int × Int × Int × Int} (h7 : idxA 3 [k.1,k.2.1,k.2.2] i = some a.2.2.2) (v : idxA 3 [g.1,g.2.1,g.2.2] i = some a.1) (h1 : idxA 3 [h.1,h.2.1,h.2.2] i = some a.2.2.1) (h5 : idxA 3 [l.1,l.2.1,l.2.2] i = some a.2.1)
    (hi : 0≤i∧i < 3) (r : axOk a) {f t : Int × Int} {o : Bool} (s : smP f) (y : smP t) :
    q1q k g h l (o,i,f.1,f.2,t.1,t.2) = some (outC i t.1 t.2 (Kv (some (f,if o = true then none else some t)) a)):=by
  obtain ⟨lo,b,p,d⟩:=a;obtain ⟨fn,fd⟩:=f;obtain ⟨tn,u⟩:=t;have m:=qn4 r;unfold axOk at r;unfold smP at s y;simp only at r s y h7 v h1 h5 m;unfold q1q;rw [Qb (show i < 3 from hi.2)];simp only [qz,h7,v,h1,h5,qj];rw [Q3 (x:=2 * lo) q0,Q3 (x:=2 * lo - p) q0,Q3 (x:=2 * b) q0,Q3 (x:=2 * b - p) q0,Q3 (x:=i + 1) q0];by_cases j : d = 0
  · rw [show (d == 0) = true by simpa using j];simp only [qz,Kv,j,if_true];by_cases hb : 2 * lo - p ≥ 0
    · rw [Qb hb];simp only [qz,qj];rw [qq (.inl hb)];rfl
    · rw [Q7 hb];simp only [qy,qj];by_cases c : 2 * b - p≤0
      · rw [Qb c,qq (.inr c)];rfl
      · rw [Q7 c,qs q0];cases o <;> rfl
  · rw [show (d == 0) = false by simpa using j];simp only [qy]
    have hs : ((cond (decide (d < 0)) (some (w64 (0 - d),w64 (0 - (2 * b - p)),w64 (0 - (2 * lo - p)))) (some (d,2 * lo - p,2 * b - p))) : Option (Int × Int × Int)) = some ((nfC (lo,b,p,d)).2.2,(nfC (lo,b,p,d)).1,(nfC (lo,b,p,d)).2.1):=by
      unfold nfC;by_cases hd : d < 0
      · rw [Qb hd,qq hd,qz,Q3 q0,Q3 q0,Q3 q0];simp only [Option.some.injEq,Prod.mk.injEq];omega
      · rw [Q7 hd,qs hd,qy]
    rw [hs];simp only [Kv,qs j];generalize nfC (lo,b,p,d) = q at m;obtain ⟨n,z,e⟩:=q;simp only at m;simp only [qj];rw [Q3 (x:=2 * e) q0,qcv (by simp only;omega) (by simp only;omega) (by simp only;omega) (by simp only;omega)];simp only [qj];have c : ((cond (befC (fn,fd) (n,2 * e)) (some (n,2 * e)) (some (fn,fd))) : Option (Int × Int)) = some (if befC (fn,fd) (n,2 * e) = true then (n,2 * e) else (fn,fd)):=by cases befC (fn,fd) (n,2 * e) <;> rfl
    rw [c];simp only [qj]
    cases o with
    | true=>rfl
    | false=>
      simp only [qy];rw [qcv (by simp only;omega) (by simp only;omega) (by simp only;omega) (by simp only;omega)];simp only [qj,Bool.false_eq_true,if_false,minC];by_cases hq : befC (z,2 * e) (tn,u) = true
      · rw [hq];rfl
      · rw [show befC (z,2 * e) (tn,u) = false by simpa using hq];rfl
def K9 (b : qh) : Prop:=((-30≤b.Lo.X∧b.Lo.X≤30)∧(-30≤b.Lo.Y∧b.Lo.Y≤30)∧(-30≤b.Lo.Z∧b.Lo.Z≤30))∧((-30≤b.Hi.X∧b.Hi.X≤30)∧(-30≤b.Hi.Y∧b.Hi.Y≤30)∧(-30≤b.Hi.Z∧b.Hi.Z≤30))
def Yy (p d : qg) : Prop:=((-1100≤p.X∧p.X≤1100)∧(-1100≤p.Y∧p.Y≤1100)∧(-1100≤p.Z∧p.Z≤1100))∧((-8≤d.X∧d.X≤8)∧(-8≤d.Y∧d.Y≤8)∧(-8≤d.Z∧d.Z≤8))
theorem qgw {b : qh} {p d : qg} (hb : K9 b) (hr : Yy p d) (aj : nzV d) : ∃ t,q9g ({p_:=p,d_:=d} : Yg) b = some (t,(hitC (axB b p d)).isSome)∧∀ u,hitC (axB b p d) = some u→t = {num_:=u.1,den_:=u.2}∧smP u:=by
  obtain ⟨⟨b1,b2,b3⟩,b4,b5,b6⟩:=hb;obtain ⟨⟨r1,r2,r3⟩,r4,r5,r6⟩:=hr;have a1 : axOk (b.Lo.X,b.Hi.X,p.X,d.X):=⟨b1,b4,r1,r4⟩
  have a2 : axOk (b.Lo.Y,b.Hi.Y,p.Y,d.Y):=⟨b2,b5,r2,r5⟩
  have a3 : axOk (b.Lo.Z,b.Hi.Z,p.Z,d.Z):=⟨b3,b6,r3,r6⟩
  unfold q9g q1p;simp only [qj];have z : smP (0,0):=⟨qr,qr⟩
  have z1 : smP (0,1):=⟨qr,qr⟩
  have fin : ∀ (o : Bool) (f t : Int × Int),smP f→smP t→q1q (d.X,d.Y,d.Z) (b.Lo.X,b.Lo.Y,b.Lo.Z) (p.X,p.Y,p.Z) (b.Hi.X,b.Hi.Y,b.Hi.Z) (o,3,f.1,f.2,t.1,t.2) = some (.inr (.inl (f.1,f.2,t.1,t.2))):=fun o f t _ _=>rfl
  have st : ∀ (i : Int) (a : Int × Int × Int × Int),(i = 0∧a = (b.Lo.X,b.Hi.X,p.X,d.X))∨(i = 1∧a = (b.Lo.Y,b.Hi.Y,p.Y,d.Y))∨(i = 2∧a = (b.Lo.Z,b.Hi.Z,p.Z,d.Z))→∀ (o : Bool) (f t : Int × Int),smP f→smP t→
      (Kv (some (f,if o = true then none else some t)) a = none∧loop (q1q (d.X,d.Y,d.Z) (b.Lo.X,b.Lo.Y,b.Lo.Z) (p.X,p.Y,p.Z) (b.Hi.X,b.Hi.Y,b.Hi.Z)) (o,i,f.1,f.2,t.1,t.2) = some (.inr (({num_:=0,den_:=0} : Ky),false)))∨
      ∃ (o' : Bool) (g c : Int × Int),Kv (some (f,if o = true then none else some t)) a = some (g,if o' = true then none else some c)∧smP g∧smP c∧loop (q1q (d.X,d.Y,d.Z) (b.Lo.X,b.Lo.Y,b.Lo.Z) (p.X,p.Y,p.Z) (b.Hi.X,b.Hi.Y,b.Hi.Z)) (o,i,f.1,f.2,t.1,t.2) =
        loop (q1q (d.X,d.Y,d.Z) (b.Lo.X,b.Lo.Y,b.Lo.Z) (p.X,p.Y,p.Z) (b.Hi.X,b.Hi.Y,b.Hi.Z)) (o',i + 1,g.1,g.2,c.1,c.2):=by
    intro i a s o f t l r
    have j : q1q (d.X,d.Y,d.Z) (b.Lo.X,b.Lo.Y,b.Lo.Z) (p.X,p.Y,p.Z) (b.Hi.X,b.Hi.Y,b.Hi.Z) (o,i,f.1,f.2,t.1,t.2) = some (outC i t.1 t.2 (Kv (some (f,if o = true then none else some t)) a)):=by
      rcases s with ⟨rfl,rfl⟩ | ⟨rfl,rfl⟩ | ⟨rfl,rfl⟩
      · exact qgy rfl rfl rfl rfl qr a1 l r
      · exact qgy rfl rfl rfl rfl qr a2 l r
      · exact qgy rfl rfl rfl rfl qr a3 l r
    have af : axOk a:=by rcases s with ⟨_,rfl⟩ | ⟨_,rfl⟩ | ⟨_,rfl⟩ <;> assumption
    have ad : ∀ u,(if o = true then none else some t) = some u→smP u:=by
      intro u n;by_cases ho : o = true
      · rw [qq ho] at n;cases n
      · rw [qs ho] at n;cases n;exact r
    have ac : ∀ g c,Kv (some (f,if o = true then none else some t)) a = some (g,c)→smP g∧∀ u,c = some u→smP u:=fun g c h=>q149 af l ad h
    cases hs : Kv (some (f,if o = true then none else some t)) a with
    | none=>rw [hs] at j;exact .inl ⟨rfl,K7 j⟩
    | some q=>
      obtain ⟨g,c⟩:=q;rw [hs] at j;have h2:=ac g c hs
      cases c with
      | none=>exact .inr ⟨true,g,t,rfl,h2.1,r,Ka j⟩
      | some c=>exact .inr ⟨false,g,c,rfl,h2.1,h2.2 c rfl,Ka j⟩
  have hC : hitC (axB b p d) = match Kv (Kv (Kv (some ((0,1),none)) (b.Lo.X,b.Hi.X,p.X,d.X)) (b.Lo.Y,b.Hi.Y,p.Y,d.Y)) (b.Lo.Z,b.Hi.Z,p.Z,d.Z) with
      | some (f,some t)=>if befC f t = true then some f else none
      | _=>none:=rfl
  rw [hC];have nn : ∀ a,Kv none a = none:=fun a=>rfl;rcases st 0 _ (.inl ⟨rfl,rfl⟩) true (0,1) (0,0) z1 z with ⟨v,l1⟩ | ⟨o1,f1,t1,v,s1,u1,l1⟩
  · rw [l1,show Kv (some ((0,1),none)) (b.Lo.X,b.Hi.X,p.X,d.X) = none from v,nn,nn];exact ⟨_,rfl,qe⟩
  rw [l1,show Kv (some ((0,1),none)) (b.Lo.X,b.Hi.X,p.X,d.X) = _ from v];rcases st 1 _ (.inr (.inl ⟨rfl,rfl⟩)) o1 f1 t1 s1 u1 with ⟨y,l2⟩ | ⟨o2,f2,t2,y,s2,u2,l2⟩
  · rw [show (0 : Int) + 1 = 1 from rfl,l2,y,nn];exact ⟨_,rfl,qe⟩
  rw [show (0 : Int) + 1 = 1 from rfl,l2,y];rcases st 2 _ (.inr (.inr ⟨rfl,rfl⟩)) o2 f2 t2 s2 u2 with ⟨e3,l3⟩ | ⟨o3,k,m,e3,s3,u3,l3⟩
  · rw [show (1 : Int) + 1 = 2 from rfl,l3,e3];exact ⟨_,rfl,qe⟩
  rw [show (1 : Int) + 1 = 2 from rfl,l3,e3,show (2 : Int) + 1 = 3 from rfl,K7 (fin o3 k m s3 u3)];simp only [qj];obtain ⟨⟨c1,c2⟩,c3⟩:=s3;obtain ⟨⟨c4,c5⟩,c6⟩:=u3;rw [qcv (by simp only;omega) (by simp only;omega) (by simp only;omega) (by simp only;omega)];simp only [qj];have ai : ∀ (x : Option ((Int × Int) × Option (Int × Int))) (t : Int × Int),x = some (k,some t)→(match x with | some (f,some t)=>if befC f t = true then some f else none | _=>none) = if befC k t = true then some k else none:=fun x t h=>by rw [h]
  cases o3 with
  | true=>
    exfalso;obtain ⟨h,hh⟩:=q6n (q57 (b:=b) (p:=p) aj);have hv : (0 : Rat)≤valC (0,1):=by unfold valC fr;grind
    have l : (axB b p d).foldl Kv (some ((0,1),none)) = some (k,none):=by
      show Kv (Kv (Kv (some ((0,1),none)) (b.Lo.X,b.Hi.X,p.X,d.X)) (b.Lo.Y,b.Hi.Y,p.Y,d.Y)) (b.Lo.Z,b.Hi.Z,p.Z,d.Z) = _;rw [show Kv (some ((0,1),none)) (b.Lo.X,b.Hi.X,p.X,d.X) = _ from v,y,e3];rfl
    rcases qdb (axB b p d) (0,1) none qr qe hv with ⟨q,_⟩ | ⟨g,c,q1,_,_,_,_,q2⟩
    · rw [l] at q;cases q
    · rw [l] at q1;cases q1;rw [hh] at q2;cases q2
  | false=>
    rw [ai _ m qe];by_cases hq : befC k m = true
    · rw [qq hq];refine ⟨_,by rw [show befC (k.1,k.2) (m.1,m.2) = true from hq];rfl,fun u n=>?_⟩;cases n;exact ⟨rfl,⟨⟨c1,c2⟩,c3⟩⟩
    · rw [qs hq];refine ⟨_,by rw [show befC (k.1,k.2) (m.1,m.2) = false by simpa using hq];rfl,by simp⟩
end Go.Sh
namespace Go.Sh
open Go Go.Am
theorem co0 (v : qg) : Ya v 0 = some v.X:=rfl
theorem co1 (v : qg) : Ya v 1 = some v.Y:=rfl
theorem co2 (v : qg) : Ya v 2 = some v.Z:=rfl
theorem qle {m : Int} {q : Rat} {a : Int} : (a : Rat) < (m : Rat) * q↔a * (q.den : Int) < m * q.num:=by
  have hd : (0 : Rat) < ((q.den : Int) : Rat):=by exact_mod_cast Ym q
  have e : q * ((q.den : Int) : Rat) = (q.num : Rat):=by
    have:=qtq (n:=q.num) (Ym q);rw [q14] at this;exact this
  rw [← J0,Rat.intCast_mul,Rat.intCast_mul,← e];constructor
  · intro h;have : (a : Rat) * ((q.den : Int) : Rat) < (m : Rat) * q * ((q.den : Int) : Rat):=Rat.mul_lt_mul_of_pos_right h hd;grind
  · intro h;refine Rat.not_le.1 fun g=>?_;have : (m : Rat) * q * ((q.den : Int) : Rat)≤(a : Rat) * ((q.den : Int) : Rat):=Rat.mul_le_mul_of_nonneg_right g (Rat.le_of_lt hd);grind
theorem qtp {m : Int} {q : Rat} {a : Int} : (m : Rat) * q < (a : Rat)↔m * q.num < a * (q.den : Int):=by
  have h:=qle (m:=-m) (q:=q) (a:=-a);rw [Rat.intCast_neg,Rat.intCast_neg,Int.neg_mul,Int.neg_mul] at h;constructor
  · intro g;have:=h.1 (by grind);omega
  · intro g;have:=h.2 q0;grind
theorem qm4 {lo hi p d : Int} {q : Rat} : inAx lo hi p d q↔2 * lo * (q.den : Int) < p * (q.den : Int) + 2 * d * q.num∧p * (q.den : Int) + 2 * d * q.num < 2 * hi * (q.den : Int):=by
  unfold inAx;have e : 2 * (d : Rat) * q = ((2 * d : Int) : Rat) * q:=by rw [Rat.intCast_mul];rfl
  rw [e,qle,qtp,Int.sub_mul,Int.sub_mul];omega
instance {lo hi p d : Int} {q : Rat} : Decidable (inAx lo hi p d q):=decidable_of_iff _ qm4.symm
theorem qir {b : qh} {p d : qg} {q : Rat} {i : Int} {a : Int × Int × Int × Int} (s : Ya p i = some a.2.2.1) (l : Ya d i = some a.2.2.2) (m : Ya b.Lo i = some a.1) (r : Ya b.Hi i = some a.2.1) (hi : 0≤i∧i < 3) (o : axOk a) (hq : smW q) :
    q7k p d b (ofR q) i = some (if inAx a.1 a.2.1 a.2.2.1 a.2.2.2 q then .inl (i + 1) else .inr (.inr false)):=by
  obtain ⟨lo,g,f,c⟩:=a;unfold axOk at o;obtain ⟨v,u⟩:=hq;have hp:=Ym q;simp only at s l m r o;unfold q7k;rw [Qb hi.2];simp only [qz,s,l,m,r,qj];rw [show (ofR q).Num = q.num from rfl,show (ofR q).Den = (q.den : Int) from rfl];have t:=mulb (x:=f) (A:=1100) (y:=(q.den : Int)) (B:=1000000) q0 q0;have p2:=mulb (x:=2 * c) (A:=16) (y:=q.num) (B:=1000000000) q0 q0;have p3:=mulb (x:=2 * lo) (A:=60) (y:=(q.den : Int)) (B:=1000000) q0 q0;have p4:=mulb (x:=2 * g) (A:=60) (y:=(q.den : Int)) (B:=1000000) q0 q0;rw [Q3 (x:=f * (q.den : Int)) q0,Q3 (x:=2 * c) q0,Q3 (x:=2 * c * q.num) q0,Q3 (x:=f * (q.den : Int) + 2 * c * q.num) q0,Q3 (x:=2 * lo) q0,Q3 (x:=2 * lo * (q.den : Int)) q0,Q3 (x:=2 * g) q0,Q3 (x:=2 * g * (q.den : Int)) q0,Q3 (x:=i + 1) q0];have j:=qm4 (lo:=lo) (hi:=g) (p:=f) (d:=c) (q:=q);by_cases k : f * (q.den : Int) + 2 * c * q.num≤2 * lo * (q.den : Int)
  · rw [Qb k,qs (fun h=>by have:=j.1 h;omega)];rfl
  · rw [Q7 k];simp only [qy,qj];by_cases n : f * (q.den : Int) + 2 * c * q.num ≥ 2 * g * (q.den : Int)
    · rw [Qb n,qs (fun h=>by have:=j.1 h;omega)];rfl
    · rw [Q7 n,qq (j.2 q0)];rfl
instance {b : qh} {p d : qg} {t : Rat} : Decidable (Yq (axB b p d) t):=decidable_of_iff _ q53.symm
theorem qjg {b : qh} {p d : qg} (hb : K9 b) (k : Yy p d) : axOk (b.Lo.X,b.Hi.X,p.X,d.X)∧axOk (b.Lo.Y,b.Hi.Y,p.Y,d.Y)∧axOk (b.Lo.Z,b.Hi.Z,p.Z,d.Z):=by
  obtain ⟨⟨b1,n,o⟩,m,h,l⟩:=hb;obtain ⟨⟨j,a,g⟩,c,q,f⟩:=k;exact ⟨⟨b1,m,j,c⟩,⟨n,h,a,q⟩,⟨o,l,g,f⟩⟩
theorem qoc {b : qh} {p d : qg} (hb : K9 b) (m : Yy p d) {q : Rat} (hq : smW q) : q7j b p d (ofR q) = some (decide (Yq (axB b p d) q)):=by
  obtain ⟨n,o,r⟩:=qjg hb m;have c:=qir (q:=q) (co0 p) (co0 d) (co0 b.Lo) (co0 b.Hi) qr n hq;have j:=qir (q:=q) (co1 p) (co1 d) (co1 b.Lo) (co1 b.Hi) qr o hq;have g:=qir (q:=q) (co2 p) (co2 d) (co2 b.Lo) (co2 b.Hi) qr r hq;have l : q7k p d b (ofR q) 3 = some (.inr (.inl ())):=rfl;unfold q7j;by_cases k : inAx b.Lo.X b.Hi.X p.X d.X q
  · rw [qq k] at c;rw [Ka c,show (0 : Int) + 1 = 1 from rfl];by_cases a : inAx b.Lo.Y b.Hi.Y p.Y d.Y q
    · rw [qq a] at j;rw [Ka j,show (1 : Int) + 1 = 2 from rfl];by_cases f : inAx b.Lo.Z b.Hi.Z p.Z d.Z q
      · rw [qq f] at g;rw [Ka g,show (2 : Int) + 1 = 3 from rfl,K7 l,Qb (q53.2 ⟨k,a,f⟩)];rfl
      · rw [qs f] at g;rw [K7 g,Q7 fun h=>f (q53.1 h).2.2];rfl
    · rw [qs a] at j;rw [K7 j,Q7 fun h=>a (q53.1 h).2.1];rfl
  · rw [qs k] at c;rw [K7 c,Q7 fun h=>k (q53.1 h).1];rfl
end Go.Sh
namespace Go.Sh
open Go Go.Am
theorem q14q {t : Rat} (m : smR t) : ∀ (n : Nat) (P S : List Rat),P.length = n→(∀ x∈P,smR x)→P.length + S.length≤1000→∀ y : Rat,
    ∃ (A B : List Rat),P = A ++ B∧(∀ x∈B,t < x)∧(∀ x∈A.getLast?,¬ t < x)∧
      (loop (Ut (ofR t)) ((P.length : Int),((P ++ y::S).map ofR))).bind (fun a=>(idx a.2 a.1).bind fun p=>some (a.2.set a.1.toNat (ofR t))) = some ((A ++ t::(B ++ S)).map ofR):=by
  intro n
  induction n with
  | zero=>
    intro P S f g h y;have : P = []:=List.length_eq_zero_iff.1 f;subst this;refine ⟨[],[],rfl,qe,qe,?_⟩
    have hs : Ut (ofR t) ((0 : Int),(([] ++ y::S).map ofR)) = some (.inr ((0 : Int),(([] ++ y::S).map ofR))):=by
      unfold Ut;rw [Q7 (by show ¬ (0 : Int) > 0;omega)];rfl
    rw [show (([] : List Rat).length : Int) = 0 from rfl,K7 hs];rfl
  | succ n ih=>
    intro P S f g h y;rcases List.eq_nil_or_concat P with rfl | ⟨L,b,rfl⟩
    · simp at f
    have hL : L.length = n:=by simpa using f
    have d : ((L.concat b).length : Int) = (L.length : Int) + 1:=by simp
    have k : (L.concat b ++ y::S).map ofR = L.map ofR ++ ofR b::ofR y::S.map ofR:=by simp
    have r : L.length + S.length≤1000:=by simp at h;omega
    have o : idx (L.map ofR ++ ofR b::ofR y::S.map ofR) (L.length : Int) = some (ofR b):=by rw [qdi];simp
    have l : idx (L.map ofR ++ ofR b::ofR y::S.map ofR) ((L.length : Int) + 1) = some (ofR y):=by
      rw [show (L.length : Int) + 1 = ((L.length + 1 : Nat) : Int) by omega,qdi];simp
    have j : w64 ((L.length : Int) + 1 - 1) = (L.length : Int):=by rw [Q3 q0];omega
    by_cases hb : t < b
    · have hs : Ut (ofR t) ((L.length : Int) + 1,L.map ofR ++ ofR b::ofR y::S.map ofR) = some (.inl ((L.length : Int),L.map ofR ++ ofR b::ofR b::S.map ofR)):=by
        unfold Ut;rw [Qb (by show (L.length : Int) + 1 > 0;omega)];simp only [qz,j,o,l,qj];rw [qhw m (g b qe),Qb hb];simp only [qj,qz];congr 3;rw [show ((L.length : Int) + 1).toNat = L.length + 1 by omega];rw [List.set_append,qs qe];simp
      obtain ⟨A,B,z,q,s,v⟩:=ih L (b::S) hL (fun x c=>g x (by simp [c])) (by simp at h ⊢;omega) b;refine ⟨A,B ++ [b],by rw [z];simp,?_,s,?_⟩
      · intro x c;rcases List.mem_append.1 c with c | c
        · exact q x c
        · simp only [List.mem_singleton] at c;rw [c];exact hb
      · rw [d,k,Ka hs];have u : L.map ofR ++ ofR b::ofR b::S.map ofR = (L ++ b::(b::S)).map ofR:=by simp
        rw [u,v];simp
    · refine ⟨L.concat b,[],qe,qe,?_,?_⟩
      · intro x c;simp at c;subst c;exact hb
      · have hs : Ut (ofR t) ((L.length : Int) + 1,L.map ofR ++ ofR b::ofR y::S.map ofR) = some (.inr ((L.length : Int) + 1,L.map ofR ++ ofR b::ofR y::S.map ofR)):=by
          unfold Ut;rw [Qb (by show (L.length : Int) + 1 > 0;omega)];simp only [qz,j,o,qj];rw [qhw m (g b qe),Q7 hb];simp only [qj,qy]
        rw [d,k,K7 hs];simp only [qj,l];congr 1;rw [show ((L.length : Int) + 1).toNat = L.length + 1 by omega];rw [List.set_append,qs qe];simp
theorem qtv {A : List Rat} {t : Rat} (hs : A.Pairwise (·≤·)) (h : ∀ x∈A.getLast?,¬ t < x) : ∀ x∈A,x≤t:=by
  intro x c;rcases List.eq_nil_or_concat A with rfl | ⟨L,b,rfl⟩
  · cases c
  have hb : ¬ t < b:=h b qe;rw [List.concat_eq_append] at c hs;rcases List.mem_append.1 c with a | a
  · have:=(List.pairwise_append.1 hs).2.2 x a b qe;grind
  · simp only [List.mem_singleton] at a;rw [a];grind
theorem q14r {t : Rat} (n : smR t) (u : 0 < t) {P : List Rat} (p : ∀ x∈P,smR x) (s : P.length≤100) (hs : ((0 : Rat)::P).Pairwise (·≤·)) :
    ∃ Q : List Rat,((app 16 (((0 : Rat)::P).map ofR) [ofR t]).bind fun f=>(loop (Ut (ofR t)) (((((0 : Rat)::P).map ofR).length : Int),f)).bind fun b=>(idx b.2 b.1).bind fun l=>some (b.2.set b.1.toNat (ofR t))) = some (((0 : Rat)::Q).map ofR)∧
      ((0 : Rat)::Q).Pairwise (·≤·)∧(∀ x,x∈Q↔x∈P∨x = t)∧Q.length = P.length + 1:=by
  have z : smR 0:=⟨qr,qr⟩
  obtain ⟨A,B,d,g,o,q⟩:=q14q n ((0 : Rat)::P).length ((0 : Rat)::P) [] rfl (by intro x c;rcases List.mem_cons.1 c with rfl | c;exact z;exact p x c) (by simp;omega) t;rw [Kj (by simp;omega),qj,List.length_map,show ((0 : Rat)::P).map ofR ++ [ofR t] = (((0 : Rat)::P) ++ t::[]).map ofR by simp,q]
  cases A with
  | nil=>
    have d : (0 : Rat)::P = B:=d;have:=g 0 (by rw [← d];simp);grind
  | cons a A=>
    have d : (0 : Rat)::P = a::(A ++ B):=d;obtain ⟨rfl,rfl⟩:=List.cons.inj d;refine ⟨A ++ t::B,qe,?_,?_,by simp;omega⟩
    · have m : (0::A).Pairwise (·≤·):=(List.pairwise_append.1 (show ((0::A) ++ B).Pairwise (·≤·) from hs)).1;have r : B.Pairwise (·≤·):=(List.pairwise_append.1 (show ((0::A) ++ B).Pairwise (·≤·) from hs)).2.1;have k:=qtv m o;show ((0::A) ++ t::B).Pairwise (·≤·);refine List.pairwise_append.2 ⟨m,List.pairwise_cons.2 ⟨fun x c=>by have:=g x c;grind,r⟩,fun x c y j=>?_⟩;have c:=k x c;rcases List.mem_cons.1 j with rfl | j
      · exact c
      · have:=g y j;grind
    · intro x;simp;constructor <;> intro h <;> grind
theorem qn5 {q : Rat} : q.num≤0↔¬ 0 < q:=by
  have h:=qmk 0 q;have b : (0 : Rat).num = 0:=rfl;have a : (0 : Rat).den = 1:=rfl;rw [b,a] at h;rw [← h];omega
theorem qgh {n m : Int} (c : m≠0) (b : -1200≤n∧n≤1200) (a : -16≤m∧m≤16) : smR (fr n m)∧((-1200≤(fr n m).num∧(fr n m).num≤1200)∧((fr n m).den : Int)≤16):=by
  by_cases h : 0 < m
  · have:=Jl h b a.2;unfold smR;omega
  · rw [← qgg];have:=Jl (n:=-n) (m:=-m) (N:=1200) (M:=16) q0 q0 q0;unfold smR;omega
structure TL (P : List Rat) (C : List Rat) : Prop where
  so : ((0 : Rat)::P).Pairwise (·≤·)
  mem : ∀ x,x∈P↔x∈C∧0 < x
  sm : ∀ x∈P,smR x∧((-1200≤x.num∧x.num≤1200)∧(x.den : Int)≤16)
  len : P.length≤C.length
theorem qpa {b : qh} {p : qg} {i c : Int} {a : Int × Int × Int × Int} (h1 : Ya p i = some a.2.2.1) (h3 : Ya b.Lo i = some a.1) (h4 : Ya b.Hi i = some a.2.1) (ha : axOk a) (hd : a.2.2.2≠0) {X : List Qr}
    {P C : List Rat} (d : TL P C) (hC : C.length≤20) (hc : c = 0∨c = 1) :
    ∃ Q,q7o b (i,X) p a.2.2.2 (c,((0 : Rat)::P).map ofR) = some (.inl (c + 1,((0 : Rat)::Q).map ofR))∧TL Q (C ++ [fr (2 * (if c = 1 then a.2.1 else a.1) - a.2.2.1) (2 * a.2.2.2)]):=by
  obtain ⟨lo,hh,l,k⟩:=a;unfold axOk at ha;simp only at h1 h3 h4 ha hd ⊢;generalize hq : (if c = 1 then hh else lo) = q;have ah : -30≤q∧q≤30:=by rcases hc with rfl | rfl <;> simp at hq <;> omega
  have o : ((cond (c == 1) ((some hh).bind fun t=>some t) (some lo)) : Option Int) = some q:=by
    rcases hc with rfl | rfl
    · rw [← hq];rfl
    · rw [← hq];rfl
  have s:=qgh (n:=2 * q - l) (m:=2 * k) q0 q0 q0;unfold q7o;rw [Qb (by show c < 2;omega)];simp only [qz,h1,h3,h4,qj];simp only [qj] at o;rw [o];simp only [qj];rw [Q3 (x:=2 * q) q0,Q3 (x:=2 * q - l) q0,Q3 (x:=2 * k) q0,Q3 (x:=c + 1) q0,qeh q0 q0 q0];simp only [qj];rw [show (ofR (fr (2 * q - l) (2 * k))).Num = (fr (2 * q - l) (2 * k)).num from rfl];by_cases u : (fr (2 * q - l) (2 * k)).num≤0
  · rw [Qb u];refine ⟨P,rfl,d.so,fun x=>?_,d.sm,by have:=d.len;simp;omega⟩;rw [d.mem x];have f:=qn5.1 u;constructor
    · rintro ⟨r,j⟩;exact ⟨by simp [r],j⟩
    · rintro ⟨r,j⟩;rcases List.mem_append.1 r with g | g
      · exact ⟨g,j⟩
      · simp only [List.mem_singleton] at g;rw [g] at j;exact absurd j f
  · rw [Q7 u];have f : 0 < fr (2 * q - l) (2 * k):=Classical.byContradiction fun g=>u (qn5.2 g);obtain ⟨Q,r,j,g3,g4⟩:=q14r s.1 f (fun x y=>(d.sm x y).1) (by have:=d.len;omega) d.so;refine ⟨Q,?_,j,fun x=>?_,fun x y=>?_,by have:=d.len;simp;omega⟩
    · simp only [qy];rw [r];rfl
    · rw [g3 x,d.mem x];constructor
      · rintro (⟨v,z⟩ | rfl)
        · exact ⟨by simp [v],z⟩
        · exact ⟨qe,f⟩
      · rintro ⟨v,z⟩;rcases List.mem_append.1 v with g | g
        · exact .inl ⟨g,z⟩
        · simp only [List.mem_singleton] at g;exact .inr g
    · rcases (g3 x).1 y with h | rfl
      · exact d.sm x h
      · exact s
def axC (a : Int × Int × Int × Int) : List Rat:=if a.2.2.2 = 0 then [] else [fr (2 * a.1 - a.2.2.1) (2 * a.2.2.2),fr (2 * a.2.1 - a.2.2.1) (2 * a.2.2.2)]
theorem qfo {b : qh} {p d : qg} {i : Int} {a : Int × Int × Int × Int} (k : Ya p i = some a.2.2.1) (n : Ya d i = some a.2.2.2) (f : Ya b.Lo i = some a.1) (j : Ya b.Hi i = some a.2.1) (hi : 0≤i∧i < 3) (g : axOk a)
    {P C : List Rat} (h : TL P C) (s : C.length≤10) :
    ∃ Q,q7n d b p (i,((0 : Rat)::P).map ofR) = some (.inl (i + 1,((0 : Rat)::Q).map ofR))∧TL Q (C ++ axC a):=by
  unfold q7n axC;rw [Qb hi.2];simp only [qz,n,qj];rw [Q3 (x:=i + 1) q0];by_cases hd : a.2.2.2 = 0
  · rw [show (a.2.2.2 == 0) = true by simpa using hd,qq hd];exact ⟨P,rfl,by simpa using h⟩
  · rw [show (a.2.2.2 == 0) = false by simpa using hd,qs hd];obtain ⟨t,o,m⟩:=qpa (X:=((0 : Rat)::P).map ofR) k f j g hd h q0 (.inl rfl);obtain ⟨c,r,l⟩:=qpa (X:=((0 : Rat)::P).map ofR) k f j g hd m (by simp;omega) (.inr rfl);have q : q7o b (i,((0 : Rat)::P).map ofR) p a.2.2.2 (2,((0 : Rat)::c).map ofR) = some (.inr (((0 : Rat)::c).map ofR)):=rfl;refine ⟨c,?_,by simpa using l⟩;simp only [qy];rw [Ka o,show (0 : Int) + 1 = 1 from rfl,Ka r,show (1 : Int) + 1 = 2 from rfl,K7 q];rfl
theorem q14p {b : qh} {p d : qg} (hb : K9 b) (o : Yy p d) : ∃ P,qar b p d = some (((0 : Rat)::P).map ofR)∧TL P (axC (b.Lo.X,b.Hi.X,p.X,d.X) ++ axC (b.Lo.Y,b.Hi.Y,p.Y,d.Y) ++ axC (b.Lo.Z,b.Hi.Z,p.Z,d.Z)):=by
  obtain ⟨s,t,j⟩:=qjg hb o;have f : ∀ a,(axC a).length≤2:=fun a=>by unfold axC;split <;> simp
  have l : TL [] []:=⟨qe,qe,qe,qe⟩
  obtain ⟨v,q,n⟩:=qfo (co0 p) (co0 d) (co0 b.Lo) (co0 b.Hi) qr s l qe;have y:=f (b.Lo.X,b.Hi.X,p.X,d.X);have z:=f (b.Lo.Y,b.Hi.Y,p.Y,d.Y);obtain ⟨x,k,g⟩:=qfo (co1 p) (co1 d) (co1 b.Lo) (co1 b.Hi) qr t n (by simp;omega);obtain ⟨c,r,h⟩:=qfo (co2 p) (co2 d) (co2 b.Lo) (co2 b.Hi) qr j g (by simp;omega);have u : q7n d b p (3,((0 : Rat)::c).map ofR) = some (.inr (((0 : Rat)::c).map ofR)):=rfl;refine ⟨c,?_,by simpa using h⟩;have m : fr 0 1 = 0:=by unfold fr;grind
  unfold qar;rw [qeh qr qr qr,m];simp only [qj];rw [show [ofR 0] = ((0 : Rat)::[]).map ofR from rfl,Ka q,show (0 : Int) + 1 = 1 from rfl,Ka k,show (1 : Int) + 1 = 2 from rfl,Ka r,show (2 : Int) + 1 = 3 from rfl,K7 u];rfl
theorem qsv {b : qh} {p d : qg} (x : Rat) : x∈Zb (axB b p d)↔x∈axC (b.Lo.X,b.Hi.X,p.X,d.X) ++ axC (b.Lo.Y,b.Hi.Y,p.Y,d.Y) ++ axC (b.Lo.Z,b.Hi.Z,p.Z,d.Z):=by
  have key : ∀ (a : Int × Int × Int × Int) (r : AxL),x∈Zb (a::r)↔x∈axC a∨x∈Zb r:=by
    intro a r;rw [Zb];unfold axC Jk farA;by_cases c : a.2.2.2 = 0
    · simp [c]
    · rw [qs c,qs c];by_cases f : 0 < a.2.2.2
      · simp only [qq f,List.mem_cons,or_assoc,List.not_mem_nil,false_or]
      · simp only [qs f,List.mem_cons,qgg,List.not_mem_nil,or_false];constructor
        · rintro (h | h | h)
          · exact .inl (.inr h)
          · exact .inl (.inl h)
          · exact .inr h
        · rintro ((h | h) | h)
          · exact .inr (.inl h)
          · exact .inl h
          · exact .inr (.inr h)
  rw [key,key,key];simp only [List.mem_append,Zb,List.not_mem_nil,or_false,or_assoc]
theorem qlu {a b : Rat} (f : (-1200≤a.num∧a.num≤1200)∧(a.den : Int)≤16) (hb : (-1300≤b.num∧b.num≤1300)∧(b.den : Int)≤16) : smR a∧smR b∧smM (a + b)∧smM ((a + b) / 2)∧((-10≤(1 / 2 : Rat).num∧(1 / 2 : Rat).num≤10)∧((1 / 2 : Rat).den : Int)≤10):=by
  have g:=Ym a;have c:=Ym b;have l:=mulb f.1 (y:=(b.den : Int)) (B:=16) q0;have p2:=mulb hb.1 (y:=(a.den : Int)) (B:=16) q0;have p3:=mulb (x:=(a.den : Int)) (A:=16) (y:=(b.den : Int)) (B:=16) q0 q0;have p4 : 0 < (a.den : Int) * (b.den : Int):=Int.mul_pos g c;have b1:=Jl (n:=a.num * (b.den : Int) + b.num * (a.den : Int)) (N:=40000) (M:=256) p4 q0 q0;rw [qfi] at b1
  have k : (a + b) / 2 = fr ((a + b).num * 1) (((a + b).den : Int) * 2):=by
    rw [← qlf (Ym _) qr,q14];unfold fr;rw [show ((1 : Int) : Rat) = 1 from rfl,show ((2 : Int) : Rat) = 2 from rfl];grind
  have h:=Jl (n:=(a + b).num * 1) (m:=((a + b).den : Int) * 2) (N:=40000) (M:=512) q0 q0 q0;rw [← k] at h
  have d : (1 / 2 : Rat) = fr 1 2:=by
    unfold fr;rw [show ((1 : Int) : Rat) = 1 from rfl,show ((2 : Int) : Rat) = 2 from rfl]
  have j:=Jl (n:=1) (m:=2) (N:=1) (M:=2) qr qr qr;rw [← d] at j;unfold smR smM;omega
theorem qlz {b : qh} {p d : qg} (hb : K9 b) (hr : Yy p d) (l : List Rat) (hl : l.length≤100) (hs : ∀ x∈l,(-1200≤x.num∧x.num≤1200)∧(x.den : Int)≤16) :
    ∀ (r : List Rat) (k : Nat),k + r.length = l.length→l.drop k = r→loop (q40 (l.map ofR) b p d) (k : Int) = some (match Jf (Yq (axB b p d)) r with | none=>.inl () | some q=>.inr (ofR q,true))
  | [],k,hk,hd=>by
    have ac : q40 (l.map ofR) b p d (k : Int) = some (.inr (.inl ())):=by
      unfold q40;rw [Q7 (by simp at hk ⊢;omega)];rfl
    rw [K7 ac];rfl
  | a::r,k,hk,hd=>by
    have v : k < l.length:=by simp at hk;omega
    have z : l[k] = a:=by
      have:=List.getElem_drop (xs:=l) (i:=k) (j:=0) (h:=by simp;omega);simp only [hd] at this;simpa using this.symm
    have u : l.drop (k + 1) = r:=by rw [← List.drop_drop,hd];rfl
    have i1 : idx (l.map ofR) (k : Int) = some (ofR a):=by rw [Qw (by simpa using v)];simp [z]
    have ha:=hs a (by rw [← z];exact Ks v);have y : fr 1 1 = 1:=by unfold fr;rw [show ((1 : Int) : Rat) = 1 from rfl];grind
    have s : fr 1 2 = 1 / 2:=by unfold fr;rw [show ((1 : Int) : Rat) = 1 from rfl,show ((2 : Int) : Rat) = 2 from rfl]
    have aa:=qlu ha (b:=1) ⟨qr,qr⟩;have d1:=Ym a
    have ab : (-1300≤(r.head?.getD (a + 1)).num∧(r.head?.getD (a + 1)).num≤1300)∧((r.head?.getD (a + 1)).den : Int)≤16:=by
      cases r with
      | nil=>
        show (-1300≤(a + 1).num∧(a + 1).num≤1300)∧((a + 1).den : Int)≤16
        have e : a + 1 = fr (a.num + (a.den : Int)) (a.den : Int):=by
          have:=qfi a 1;rw [← this];rw [show (1 : Rat).den = 1 from rfl,show (1 : Rat).num = 1 from rfl];congr 1 <;> simp
        have:=Jl (n:=a.num + (a.den : Int)) (m:=(a.den : Int)) (N:=1300) (M:=16) d1 q0 q0;rw [← e] at this;omega
      | cons c r=>
        show (-1300≤c.num∧c.num≤1300)∧(c.den : Int)≤16;have:=hs c (List.mem_of_mem_drop (i:=k + 1) (by rw [u];simp));omega
    have g:=qlu ha ab
    have t : ((cond (decide ((w64 ((k : Int) + 1)) < ((l.map ofR).length : Int))) ((idx (l.map ofR) (w64 ((k : Int) + 1))).bind fun o=>some (o.Num,o.Den)) (some ((ofR (a + 1)).Num,(ofR (a + 1)).Den))) : Option (Int × Int)) = some ((r.head?.getD (a + 1)).num,((r.head?.getD (a + 1)).den : Int)):=by
      rw [Q3 q0,List.length_map]
      cases r with
      | nil=>
        rw [Q7 (by simp at hk;omega)];rfl
      | cons c r=>
        have ad : k + 1 < l.length:=by simp at hk;omega
        have ae : l[k + 1] = c:=by
          have:=List.getElem_drop (xs:=l) (i:=k + 1) (j:=0) (h:=by simp;omega);simp only [u] at this;simpa using this.symm
        rw [Qb q0,show (k : Int) + 1 = ((k + 1 : Nat) : Int) by omega,Qw (by simpa using ad)];simp [ae,ofR]
    have f : q40 (l.map ofR) b p d (k : Int) = some (if Yq (axB b p d) ((a + r.head?.getD (a + 1)) / 2) then .inr (.inr (ofR a,true)) else .inl ((k : Int) + 1)):=by
      unfold q40;rw [Qb (by simp;omega)];simp only [qz,i1,qj];rw [qeh qr qr qr,y];simp only [qj];rw [qht aa.1 aa.2.1];simp only [qj];rw [t];simp only [qj];rw [show ({Num:=(r.head?.getD (a + 1)).num,Den:=((r.head?.getD (a + 1)).den : Int)} : Qr) = ofR (r.head?.getD (a + 1)) from rfl,qht g.1 g.2.1];simp only [qj];rw [qeh qr qr qr,s];simp only [qj];rw [qx5 g.2.2.1 g.2.2.2.2];simp only [qj];rw [show (a + r.head?.getD (a + 1)) * (1 / 2) = (a + r.head?.getD (a + 1)) / 2 by grind,qoc hb hr g.2.2.2.1.w];simp only [qj];by_cases hq : Yq (axB b p d) ((a + r.head?.getD (a + 1)) / 2)
      · rw [Qb hq,qq hq];rfl
      · rw [Q7 hq,qs hq,Q3 q0];rfl
    by_cases hq : Yq (axB b p d) ((a + r.head?.getD (a + 1)) / 2)
    · rw [qq hq] at f;rw [K7 f,show Jf (Yq (axB b p d)) (a::r) = some a from qq hq]
    · rw [qs hq] at f;rw [Ka f,show Jf (Yq (axB b p d)) (a::r) = Jf (Yq (axB b p d)) r from qs hq,show (k : Int) + 1 = ((k + 1 : Nat) : Int) by omega];exact qlz hb hr l hl hs r (k + 1) (by simp at hk ⊢;omega) u
theorem qoa {b : qh} {p d : qg} (hb : K9 b) (k : Yy p d) (j : nzV d) : q7g b p d = some (match hitT (axB b p d) with | none=>(({Num:=0,Den:=0} : Qr),false) | some q=>(ofR q,true)):=by
  obtain ⟨P,e,t⟩:=q14p hb k;have f : ∀ a,(axC a).length≤2:=fun a=>by unfold axC;split <;> simp
  have n:=f (b.Lo.X,b.Hi.X,p.X,d.X);have o:=f (b.Lo.Y,b.Hi.Y,p.Y,d.Y);have r:=f (b.Lo.Z,b.Hi.Z,p.Z,d.Z);have c:=t.len;simp only [List.length_append] at c
  have g:=qlz hb k ((0 : Rat)::P) (by simp;omega) (by
    intro x h;rcases List.mem_cons.1 h with rfl | h
    · exact ⟨qr,qr⟩
    · exact (t.sm x h).2) ((0 : Rat)::P) 0 qe rfl
  have m:=qu8 (l:=axB b p d) (P:=P) (q57 j) t.so (fun x=>by rw [t.mem x,qsv]);rw [m] at g;unfold q7g;rw [show ((0 : Nat) : Int) = 0 from rfl] at g;rw [e,qj,g];cases hitT (axB b p d) <;> rfl
end Go.Sh
namespace Go.Sh
open Go Go.Am
theorem qmp {α β : Type} {f : α→Option (α ⊕ β)} (st : Nat→α) (n : Nat) (ok : Nat→Prop) (b e : β)
    (step : ∀ k,k < n→(∀ j,j≤k→ok j)→f (st k) = some (.inl (st (k + 1))))
    (bad : ∀ k,k < n→(∀ j,j < k→ok j)→¬ ok k→f (st k) = some (.inr e))
    (done : (∀ j,j < n→ok j)→f (st n) = some (.inr b)) :
    ((∀ j,j < n→ok j)∧loop f (st 0) = some b)∨(∃ j,j < n∧¬ ok j∧loop f (st 0) = some e):=by
  by_cases h : ∀ j,j < n→ok j
  · exact .inl ⟨h,Ze st n b (fun k c=>step k c fun j d=>h j q0) (done h) (Nat.zero_le _)⟩
  · refine .inr ?_
    have g : ∃ k,(k < n∧¬ ok k)∧∀ j,j < k→ok j:=by
      have : ∃ k,k < n∧¬ ok k:=by
        refine Classical.byContradiction fun o=>h fun k c=>?_;exact Classical.byContradiction fun h=>o ⟨k,c,h⟩
      obtain ⟨k,c⟩:=this
      induction k using Nat.strongRecOn with
      | _ k ih=>
        by_cases d : ∃ j,j < k∧(j < n∧¬ ok j)
        · obtain ⟨j,l,g⟩:=d;exact ih j l g
        · exact ⟨k,c,fun j l=>Classical.byContradiction fun h=>d ⟨j,l,q0,h⟩⟩
    obtain ⟨K,⟨m,hb⟩,a⟩:=g;exact ⟨K,m,hb,Ze st K e (fun k c=>step k q0 fun j d=>a j q0) (bad K m a hb) (Nat.zero_le _)⟩
theorem q13u (xs : List Int) (h : xs.length≤1000000) :
    ((q1m xs).bind fun c=>(K4 c.length xs.length).bind fun _=>(q4b c).bind fun b=>(K4 b.2.length c.length).bind fun _=>(q4o b.2.length b.1).bind fun _=>some ((b.2.drop b.1.1).take b.1.2)) = some (Qu xs):=by
  obtain ⟨ys,k,g,m⟩:=qpr xs h;have f : ys.length = xs.length:=g.length_eq;obtain ⟨w,a,c1,c2,c3,c4⟩:=qk5 m q0;obtain ⟨_,j,_⟩:=U4 h
  have d : a.take w = Qu xs:=by
    refine qps (l:=xs) ⟨c4.1,fun x=>?_⟩ j;rw [c4.2 x];exact g.mem_iff
  simp only [qj,k,K4,f,if_true,c1,c2,q4o];rw [qq q0];simp only [qj,List.drop_zero,d]
theorem qyj (l : List qk) (d : l.length≤1000000) : qb3 l (fun x0=>q45 x0) = some (decide (¬ ∀ r∈l,vR r)):=by
  have hs : ∀ (k : Nat) (h : k < l.length),q5o l (fun x0=>q45 x0) (k : Int) = some (if (fun r=>!decide (vR r)) l[k] = true then .inr (.inr (k : Int)) else .inl ((k + 1 : Nat) : Int)):=by
    intro k h;simp only [q5o,dlt h,qz,Qw h,qj,w64s h d,q45,q14w];by_cases c : vR l[k] <;> simp [c]
  have hd : q5o l (fun x0=>q45 x0) (l.length : Int) = some (.inr (.inl ())):=by simp only [q5o,dnl,qy]
  unfold qb3 qew;rcases U5 l (fun r=>!decide (vR r)) (fun k _=>(k : Int)) () _ hs hd with ⟨g,a⟩ | ⟨k,b,j,_,a⟩
  · rw [a];have : ∀ r∈l,vR r:=fun r f=>by simpa using g r f
    simp [];omega
  · rw [a];have : ¬ ∀ r∈l,vR r:=fun h=>by simp [h _ (Ks b)] at j
    simp only [qj];rw [Qb this,Qb q0]
theorem qyg (l : List qk) : q7t l = some (mkR l):=by
  unfold q7t mkR;by_cases b : 400 < l.length
  · rw [Qb (by omega : (l.length : Int) > 400),qz,qq b]
  rw [Q7 (by omega : ¬ (l.length : Int) > 400),qy,qs b,qyj l q0,qj];by_cases a : ∀ r∈l,vR r
  · rw [Q7 (fun h=>h a),qy,qv5 l q0 a,qq a];rfl
  · rw [Qb a,qz,qs a]
end Go.Sh
namespace Go.Sh
open Go Go.Am
theorem q13p (v : qg) : q92 v = some (decide ((-1000000≤v.X∧-1000000≤v.Y∧-1000000≤v.Z)∧v.X≤1000000∧v.Y≤1000000∧v.Z≤1000000)):=by
  unfold q92;by_cases a : min (min v.X v.Y) v.Z ≥ -1000000
  · by_cases b : max (max v.X v.Y) v.Z≤1000000
    · rw [Qb a,Qb b,qz,qj];congr 1;exact (Qb q0).symm
    · rw [Qb a,Q7 b,qz,qj];congr 1;exact (Q7 q0).symm
  · rw [Q7 a,qy,qj];congr 1;exact (Q7 q0).symm
theorem q13q (b : qh) : qc0 b = some (decide (vB b)):=by
  unfold qc0 vB;simp only [q13p,qj];by_cases a : b.Lo.X < b.Hi.X
  · by_cases c : b.Lo.Y < b.Hi.Y
    · by_cases d : b.Lo.Z < b.Hi.Z
      · simp only [a,c,d,decide_true,qz,qj,true_and];by_cases f : (-1000000≤b.Lo.X∧-1000000≤b.Lo.Y∧-1000000≤b.Lo.Z)∧b.Lo.X≤1000000∧b.Lo.Y≤1000000∧b.Lo.Z≤1000000
        · rw [Qb f];simp only [qz,qj];congr 1;exact decide_eq_decide.2 q0
        · rw [Q7 f];simp only [qy,qj];congr 1;exact (Q7 q0).symm
      · simp [a,c,d]
    · simp [a,c]
  · simp [a]
theorem qxl (v : qg) (n : Int) : q76 v n = some (decide ((n≤v.X∧n≤v.Y∧n≤v.Z)∧v.X≤1000000∧v.Y≤1000000∧v.Z≤1000000)):=by
  unfold q76
  by_cases d : v.X ≥ n <;> by_cases b : v.Y ≥ n <;> by_cases g : v.Z ≥ n <;> by_cases c : v.X≤1000000 <;> by_cases f : v.Y≤1000000 <;> by_cases a : v.Z≤1000000 <;>
    simp [d,b,g,c,f,a] <;> omega
theorem qxx (b : qh) : qal b = some (decide (vB b)):=by
  unfold qal vB;simp only [qxl,qj];by_cases a : (-1000000≤b.Lo.X∧-1000000≤b.Lo.Y∧-1000000≤b.Lo.Z)∧b.Lo.X≤1000000∧b.Lo.Y≤1000000∧b.Lo.Z≤1000000
  · rw [Qb a];simp only [qz,qj];by_cases c : (-1000000≤b.Hi.X∧-1000000≤b.Hi.Y∧-1000000≤b.Hi.Z)∧b.Hi.X≤1000000∧b.Hi.Y≤1000000∧b.Hi.Z≤1000000
    · rw [Qb c];by_cases f : b.Lo.X < b.Hi.X <;> by_cases d : b.Lo.Y < b.Hi.Y <;> by_cases g : b.Lo.Z < b.Hi.Z <;> simp [f,d,g] <;> omega
    · rw [Q7 c];simp only [qy,qj];congr 1;exact (Q7 q0).symm
  · rw [Q7 a];simp only [qy,qj];congr 1;exact (Q7 q0).symm
theorem q13o (l : List qh) (d : l.length≤1000000) : Uv l (fun x0=>q4f x0) = some (decide (¬ ∀ r∈l,vB r)):=by
  have hs : ∀ (k : Nat) (h : k < l.length),Jq l (fun x0=>q4f x0) (k : Int) = some (if (fun r=>!decide (vB r)) l[k] = true then .inr (.inr (k : Int)) else .inl ((k + 1 : Nat) : Int)):=by
    intro k h;simp only [Jq,dlt h,qz,Qw h,qj,w64s h d,q4f,q13q];by_cases c : vB l[k] <;> simp [c]
  have hd : Jq l (fun x0=>q4f x0) (l.length : Int) = some (.inr (.inl ())):=by simp only [Jq,dnl,qy]
  unfold Uv q82;rcases U5 l (fun r=>!decide (vB r)) (fun k _=>(k : Int)) () _ hs hd with ⟨g,a⟩ | ⟨k,b,j,_,a⟩
  · rw [a];have : ∀ r∈l,vB r:=fun r f=>by simpa using g r f
    simp [];omega
  · rw [a];have : ¬ ∀ r∈l,vB r:=fun h=>by simp [h _ (Ks b)] at j
    simp only [qj];rw [Qb this,Qb q0]
theorem q13m (s : Mg qk qh) (a b : Int) (c : List qk) (hl : (s.flat putB).length + c.length≤1000000) :
    qbz (s.flat putB) s.sec (s.done.length : Int) s.hi a b c = some ((addM putB s a b c).sec,((addM putB s a b c).done.length : Int),(addM putB s a b c).hi,(addM putB s a b c).flat putB):=by
  have x : (s.flat putB).length = s.done.length + s.sec.length:=by simp [Mg.flat]
  have d : s.sec.length≤1000000:=by omega
  unfold qbz;rcases J8 putB s a b c with ⟨p,r,y,m⟩ | ⟨p,m⟩
  · have hb : decide ((c.length : Int) > 0) = true:=Qb (by have:=List.length_pos_iff.2 p;omega);have z : (s.hi == a) = true:=by simpa using y
    rw [r] at hb;rw [m,r];simp only [hb,qz,z,qj,qkp _ _ d,decide_true]
    have:=q4x (fun v : qh=>({Lo:=v.Lo,Hi:=({X:=v.Hi.X,Y:=v.Hi.Y,Z:=b} : qg)} : qh)) s.done (s.sec.map (putB s.lo s.hi)) (by simp;omega) (q90 b) (fun k o f u=>by
      have l : (s.done ++ s.sec.map (putB s.lo s.hi)).length = (s.flat putB).length:=rfl
      simp only [q90,dlt f,qz,Qw f,qj,w64s f q0,Int.toNat_natCast]) (fun o=>by simp only [q90,dnl,qy])
    rw [show s.flat putB = s.done ++ s.sec.map (putB s.lo s.hi) from rfl,this];simp only [qj,Mg.flat,List.map_map];rfl
  · rw [m]
    have hc : ((cond (decide ((c.length : Int) > 0)) (some (s.hi == a)) (some false)).bind fun g=>(cond g ((qb5 s.sec c).bind fun j=>some j) (some false))) = some false:=by
      by_cases l : c = []
      · subst l;simp
      · have hb : decide ((c.length : Int) > 0) = true:=Qb (by have:=List.length_pos_iff.2 l;omega);simp only [hb,qz,qj,qkp _ _ d];by_cases q : s.hi = a
        · have t : s.sec≠c:=fun h=>p ⟨l,h.symm,q⟩;simp [q,t]
        · have : (s.hi == a) = false:=by simpa using q
          simp [this]
    have n:=q3p c (putB a b) (s.flat putB) (fun o=>(c,((s.flat putB).length : Int),b,o)) (q91 c a b (s.flat putB)) (fun k f o u=>by
      simp only [q91,dlt f,qz,Qw f,qj,w64s f q0];rw [Kj (by simp;omega)]
      rfl) (fun o=>by simp only [q91,dnl,qy])
    rw [← Option.bind_assoc,hc];simp only [qj,qy,n];simp [Mg.flat]
theorem q15b (l : List qh) (o : List Int) (g : l.length≤400) (d : o.length≤10000) : loop (q60 l) (0,o) = some (o ++ zsOf l):=
  Zq l q0 (fun r=>[r.Lo.Z,r.Hi.Z]) o (fun o=>o) (q60 l) (fun k a c b=>by
    have f : c.length = o.length + 2 * k:=by
      rw [b,List.length_append];have:=Ju (l.take k);rw [List.length_take,Nat.min_eq_left q0] at this;unfold zsOf at this;omega
    simp only [q60,dlt a,qz,Qw a,qj,w64s a q0]
    rw [Kj (by simp;omega)]
    rfl) (fun o=>by simp only [q60,dnl,qy])
theorem qje (l : List qh) (g : l.length≤400) (x : Int) : loop (q62 l x) (0,[]) = some (atB l x):=by
  have:=Zq l q0 (fun r=>if covB x r = true then [Jo r] else []) [] (fun o=>o) (q62 l x) (fun k a o d=>by
    have f : o.length≤k:=by rw [d,List.nil_append];have:=q11 (l.take k) x;rw [List.length_take,Nat.min_eq_left q0] at this;exact this
    simp only [q62,dlt a,qz,Qw a,qj,w64s a q0];by_cases b : l[k].Lo.Z≤x
    · by_cases c : x < l[k].Hi.Z
      · simp only [b,c,decide_true,qz,qj,covB,Bool.and_self,if_true];rw [Kj (by simp;omega)];rfl
      · simp only [b,c,decide_true,decide_false,qz,qy,qj,covB,Bool.and_false,if_false,Bool.false_eq_true,List.append_nil]
    · simp only [b,decide_false,qy,qj,covB,Bool.false_and,if_false,Bool.false_eq_true,List.append_nil]) (fun o=>by simp only [q62,dnl,qy])
  rw [List.nil_append] at this;exact this
theorem q10m {kind : Int} {p q : List qh} {xs : List Int} (ac : Qu (zsOf p ++ zsOf q) = xs) (h : p.length + q.length≤800) (F : Int × List qk × Int × Int × List qh→Option ((Int × List qk × Int × Int × List qh) ⊕ ((List qk × Int × Int × List qh) ⊕ (List qh × Int))))
    (ag : ∀ (a b : Int) (k : Nat) (s : Mg qk qh),(s.flat putB).length + 400≤1000000→(h1 : k + 1 < xs.length)→a = xs[k]'(q0)→b = xs[k + 1]'h1→(secB kind p q a).length≤400→
      F (((k + 1 : Nat) : Int),s.sec,(s.done.length : Int),s.hi,s.flat putB) = some (.inl (((k + 1 + 1 : Nat) : Int),(addM putB s a b (secB kind p q a)).sec,((addM putB s a b (secB kind p q a)).done.length : Int),(addM putB s a b (secB kind p q a)).hi,(addM putB s a b (secB kind p q a)).flat putB)))
    (z : ∀ (a : Int) (k : Nat) (s : Mg qk qh),(h1 : k + 1 < xs.length)→a = xs[k]'(q0)→400 < (secB kind p q a).length→
      F (((k + 1 : Nat) : Int),s.sec,(s.done.length : Int),s.hi,s.flat putB) = some (.inr (.inr ([],4))))
    (y : ∀ (k : Nat) (s : Mg qk qh),xs.length≤k + 1→F (((k + 1 : Nat) : Int),s.sec,(s.done.length : Int),s.hi,s.flat putB) = some (.inr (.inl (s.sec,(s.done.length : Int),s.hi,s.flat putB)))) :
    (∃ a b c,loop F (1,[],0,0,[]) = some (.inl (a,b,c,mrgB kind p q)))∨(400 < (mrgB kind p q).length∧loop F (1,[],0,0,[]) = some (.inr ([],4))):=by
  have ap:=Ju p;have aj:=Ju q;obtain ⟨_,ab,d⟩:=U4 (l:=zsOf p ++ zsOf q) (by simp;omega);have d : (Qu (zsOf p ++ zsOf q)).length≤1600:=by simp at d;omega
  have m : ∀ x,(secB kind p q x).length≤(mrgB kind p q).length:=fun x=>qox kind q0 x;have ah : mrgB kind p q = (K6 putB K0 (Yf (Qu (zsOf p ++ zsOf q)) (secB kind p q))).flat putB:=rfl;rw [ah] at m ⊢;rw [ac] at ab d m ⊢;generalize aa : Yf xs (secB kind p q) = steps at m ⊢;have am : steps.length = xs.length - 1:=by rw [← aa];exact q67 _ _
  have u : ∀ k (g : k < steps.length),steps[k] = (xs[k]'(q0),xs[k + 1]'(q0),secB kind p q (xs[k]'(q0))):=fun k g=>by subst aa;exact q66 g q0
  have af : ∀ k,k≤steps.length→(∀ j,j < k→∀ t,steps[j]? = some t→t.2.2.length≤400)→((K6 putB K0 (steps.take k)).flat putB).length≤1600 * 400:=fun k g n=>by
    have h1:=qda putB (s0:=K0) (M:=400) (steps:=steps.take k) (fun t o=>by
      obtain ⟨i,hi,rfl⟩:=List.getElem_of_mem o;rw [List.length_take] at hi;rw [List.getElem_take]
      exact n i q0 _ (List.getElem?_eq_getElem q0))
    have v : (steps.take k).length≤1600:=by rw [List.length_take];omega
    have h3 : (K0.flat putB : List qh).length = 0:=rfl;have h4 : (steps.take k).length * 400≤1600 * 400:=Nat.mul_le_mul_right _ v;omega
  have main:=qmp (f:=F) (fun k=>(((k + 1 : Nat) : Int),(K6 putB K0 (steps.take k)).sec,((K6 putB K0 (steps.take k)).done.length : Int),(K6 putB K0 (steps.take k)).hi,(K6 putB K0 (steps.take k)).flat putB))
    steps.length (fun j=>∀ t,steps[j]? = some t→t.2.2.length≤400) (.inl ((K6 putB K0 steps).sec,((K6 putB K0 steps).done.length : Int),(K6 putB K0 steps).hi,(K6 putB K0 steps).flat putB)) (.inr ([],4))
    (fun k g n=>by
      have r : k + 1 < xs.length:=by omega
      have hc:=n k (Nat.le_refl _) _ (List.getElem?_eq_getElem g);have hm:=af k q0 fun j al=>n j q0;rw [q3b putB g,u k g] at *;simp only at hc
      exact ag _ _ k (K6 putB K0 (steps.take k)) q0 r rfl rfl hc)
    (fun k g n hb=>by
      have r : k + 1 < xs.length:=by omega
      have an : k < xs.length:=by omega
      refine z _ k (K6 putB K0 (steps.take k)) r rfl ?_;refine Nat.lt_of_not_le fun h=>hb fun t o=>?_;rw [List.getElem?_eq_getElem g,u k g] at o
      cases o;exact h)
    (fun _=>by
      rw [List.take_length]
      exact y steps.length _ q0)
  have ae : ((((0 + 1 : Nat) : Int),(K6 putB K0 (steps.take 0)).sec,((K6 putB K0 (steps.take 0)).done.length : Int),(K6 putB K0 (steps.take 0)).hi,(K6 putB K0 (steps.take 0)).flat putB) : Int × List qk × Int × Int × List qh) = (1,[],0,0,[]):=rfl;rw [ae] at main;rcases main with ⟨_,v⟩ | ⟨j,n,hb,v⟩
  · exact .inl ⟨_,_,_,v⟩
  · refine .inr ⟨?_,v⟩;have ak : j < xs.length:=by omega
    have h5 : 400 < (secB kind p q xs[j]).length:=by
      refine Nat.lt_of_not_le fun h=>hb fun t o=>?_;rw [List.getElem?_eq_getElem n,u j n] at o;cases o;exact h
    exact Nat.lt_of_lt_of_le h5 (m xs[j])
theorem qz6 (l : List qh) (m : l.length≤400) (x : ∀ b∈l,vB b) : qc1 l = some (if 400 < (mrgB 2 l []).length then ([],4) else (mrgB 2 l [],0)):=by
  unfold qc1;have aa:=Ju l;simp only [show idx [l] 0 = some l from rfl,qj,q15b l [] m qe,List.nil_append];rw [q13u _ q0];simp only [qj];have t : zsOf l = zsOf l ++ zsOf []:=by simp [zsOf]
  obtain ⟨_,y,d⟩:=U4 (l:=zsOf l ++ zsOf []) (by rw [← t];omega);have d : (Qu (zsOf l ++ zsOf [])).length≤800:=by rw [← t] at d ⊢;omega
  have g : ∀ z,q7t (atB l z) = some (if 400 < (secB 2 l [] z).length then ([],4) else (secB 2 l [] z,0)):=fun z=>by
    have:=q11 l z;rw [qyg,mkR,qs q0,qq (q14v x z)];rfl
  rw [t]
  have:=q10m (kind:=2) (p:=l) (q:=[]) rfl (by simp;omega) (q61 (Qu (zsOf l ++ zsOf [])) l)
    (fun a b k s hs f r hb u=>by
      have h0 : k < (Qu (zsOf l ++ zsOf [])).length:=by omega
      have o : idx (Qu (zsOf l ++ zsOf [])) (w64 (((k + 1 : Nat) : Int) - 1)) = some a:=by rw [Q3 q0,r];exact q2b q0 q0
      have v : idx (Qu (zsOf l ++ zsOf [])) ((k + 1 : Nat) : Int) = some b:=by rw [hb];exact Qw f
      have h:=g a;rw [qs q0] at h;simp only [q61,dlt f,qz,o,v,qj,show idx [l] 0 = some l from rfl,qje l m,h,show ((0 : Int) != 0) = false from rfl,qy,q13m s a b (secB 2 l [] a) q0]
      rw [w64s f q0])
    (fun a k s f r u=>by
      have o : idx (Qu (zsOf l ++ zsOf [])) (w64 (((k + 1 : Nat) : Int) - 1)) = some a:=by rw [Q3 q0,r];exact q2b q0 q0
      have h:=g a;rw [qq u] at h
      simp only [q61,dlt f,qz,o,Qw f,qj,show idx [l] 0 = some l from rfl,qje l m,h,show ((4 : Int) != 0) = true from rfl])
    (fun k s f=>by
      have : decide (((k + 1 : Nat) : Int) < ((Qu (zsOf l ++ zsOf [])).length : Int)) = false:=Q7 q0
      simp only [q61,this,qy])
  rcases this with ⟨a,b,c,n⟩ | ⟨j,n⟩
  · rw [n];simp only [qj];by_cases j : 400 < (mrgB 2 l []).length
    · rw [Qb (by omega : ((mrgB 2 l []).length : Int) > 400),qq j];rfl
    · rw [Q7 (by omega : ¬ ((mrgB 2 l []).length : Int) > 400),qs j];rfl
  · rw [n,qq j];rfl
theorem qt4 (p q : List qh) (a : p.length≤1000000) : qeu p q = some (decide (p = q)):=sameBox p q a
theorem qpn (l : List qh) : q8z l = some (Kx l):=by
  unfold q8z Kx;by_cases d : 400 < l.length
  · rw [Qb (by omega : (l.length : Int) > 400),qz,qq d]
  rw [Q7 (by omega : ¬ (l.length : Int) > 400),qy,qs d,q13o l q0,qj];by_cases a : ∀ r∈l,vB r
  · rw [Q7 (fun h=>h a),qy,qz6 l q0 a,qq a,qj];by_cases b : 400 < (mrgB 2 l []).length
    · have c : mrgB 2 l []≠l:=fun h=>by rw [h] at b;exact d b
      rw [qq b,qs c];rfl
    · rw [qs b];simp only [qt4 (mrgB 2 l []) l q0];by_cases f : mrgB 2 l [] = l <;> simp [f]
  · rw [Qb a,qz,qs a]
end Go.Sh
namespace Go.Sh
open Go Go.Am
def q6c (kind : Int) (p q : List qh) (z : Int) : Prop:=400 < (secB kind p q z).length∨400 < (secB 2 p [] z).length∨400 < (secB 2 q [] z).length
theorem quj (kind : Int) {p q : List qh} (h : p.length + q.length≤800) (u : ∀ z,(atB p z).length + (atB q z).length≤490) {xs : List Int} (m : xs.length≤1000000) {i : Nat} (hi : i + 1 < xs.length) (hb : q6c kind p q (xs[i]'(q0))) (a : Int) (c : List qk) (o : List qh) :
    q2k xs p q kind (c,a,(i : Int),o) = some (.inr (.inr ([],false))):=by
  have b : i < xs.length:=by omega
  have g : w64 ((i : Int) + 1) = ((i + 1 : Nat) : Int):=w64s b m;have x:=q11 p xs[i];have y:=q11 q xs[i];have nz:=u xs[i];have t : U8 p xs[i] = some (atB p xs[i]):=qeb p q0 _;have aq : U8 q xs[i] = some (atB q xs[i]):=qeb q q0 _;have r : Zo kind (atB p xs[i]) (atB q xs[i]) = some (secB kind p q xs[i]):=q75 kind q0;have l : Zo 2 (atB p xs[i]) [] = some (secB 2 p [] xs[i]):=q75 2 (by simp;omega);have n : Zo 2 (atB q xs[i]) [] = some (secB 2 q [] xs[i]):=q75 2 (by simp;omega);unfold q2k;simp only [g,dlt hi,qz,Qw b,t,aq,r,l,n,qj];by_cases s : 400 < (secB kind p q xs[i]).length
  · have d : decide (((secB kind p q xs[i]).length : Int) > 400) = true:=Qb q0;simp only [d,qz,qj]
  have d : decide (((secB kind p q xs[i]).length : Int) > 400) = false:=Q7 q0;by_cases k : 400 < (secB 2 p [] xs[i]).length
  · have f : decide (((secB 2 p [] xs[i]).length : Int) > 400) = true:=Qb q0;simp only [d,f,qz,qy,qj]
  have f : decide (((secB 2 p [] xs[i]).length : Int) > 400) = false:=Q7 q0;have v : 400 < (secB 2 q [] xs[i]).length:=by rcases hb with h | h | h <;> first | exact absurd h s | exact absurd h k | exact h
  have j : decide (((secB 2 q [] xs[i]).length : Int) > 400) = true:=Qb q0;simp only [d,f,j,qz,qy,qj]
theorem qxu (kind : Int) {p q : List qh} (h : p.length + q.length≤800) (hz : ∀ z,(atB p z).length + (atB q z).length≤490) :
    q5i kind p q = some (mrgB kind p q,decide (((mrgB kind p q).length : Int)≤400))∨(q5i kind p q = some ([],false)∧∃ z,q6c kind p q z):=by
  unfold q5i;rw [qxo q0];simp only [qj];have al:=Ju p;have ad:=Ju q;obtain ⟨_,af,o⟩:=U4 (l:=zsOf p ++ zsOf q) (by simp;omega);have aa : (Qu (zsOf p ++ zsOf q)).length≤1600:=by simp at o;omega
  unfold mrgB;generalize Qu (zsOf p ++ zsOf q) = xs at aa ⊢;generalize r : Yf xs (secB kind p q) = steps;have ai : steps.length = xs.length - 1:=by rw [← r];exact q67 _ _
  have a : ∀ k (b : k < steps.length),steps[k] = (xs[k]'(q0),xs[k + 1]'(q0),secB kind p q (xs[k]'(q0))):=fun k b=>by subst r;exact q66 b q0
  have x : ∀ k,k≤steps.length→(∀ j,j < k→∀ t,steps[j]? = some t→¬ q6c kind p q t.1)→((K6 putB K0 (steps.take k)).flat putB).length≤1600 * 400:=fun k b d=>by
    have h1:=qda putB (s0:=K0) (M:=400) (steps:=steps.take k) (fun t c=>by
      obtain ⟨i,hi,rfl⟩:=List.getElem_of_mem c;rw [List.length_take] at hi;rw [List.getElem_take];have:=d i q0 _ (List.getElem?_eq_getElem q0);rw [a i q0] at this ⊢
      exact Nat.le_of_not_lt fun h=>this (.inl h))
    have n : (steps.take k).length≤1600:=by rw [List.length_take];omega
    have h3 : (K0.flat putB : List qh).length = 0:=rfl;have h4 : (steps.take k).length * 400≤1600 * 400:=Nat.mul_le_mul_right _ n;omega
  have main:=qmp (f:=q2k xs p q kind) (fun k=>((K6 putB K0 (steps.take k)).sec,((K6 putB K0 (steps.take k)).done.length : Int),(k : Int),(K6 putB K0 (steps.take k)).flat putB))
    steps.length (fun j=>∀ t,steps[j]? = some t→¬ q6c kind p q t.1) (.inl ((K6 putB K0 steps).flat putB)) (.inr ([],false)) (fun k b d=>by
      have g : k + 1 < xs.length:=by omega
      have u:=d k (Nat.le_refl _) _ (List.getElem?_eq_getElem b);have hm:=x k q0 fun j ah=>d j q0;rw [a k b] at u
      have s : qix kind p q xs[k]:=by
        refine ⟨hz _,?_,?_,?_⟩
        · exact Nat.le_of_not_lt fun h=>u (.inl h)
        · exact Nat.le_of_not_lt fun h=>u (.inr (.inl h))
        · exact Nat.le_of_not_lt fun h=>u (.inr (.inr h))
      have:=quk kind q0 (xs:=xs) q0 g s (K6 putB K0 (steps.take k)) q0 (fun h0=>by subst h0;rfl) (fun ac=>by
        obtain ⟨m,rfl⟩ : ∃ m,k = m + 1:=⟨k - 1,q0⟩
        rw [q3b putB q0,qcm,a m q0])
      rw [this,q3b putB b,a k b])
    (fun k b _ hb=>by
      have g : k + 1 < xs.length:=by omega
      have aj : k < xs.length:=by omega
      refine quj kind h hz q0 g ?_ _ _ _;refine Classical.byContradiction fun y=>hb fun t c=>?_;rw [List.getElem?_eq_getElem b,a k b] at c
      cases c;exact y)
    (fun _=>by
      rw [List.take_length]
      have hb : decide (w64 ((steps.length : Int) + 1) < (xs.length : Int)) = false:=by
        rw [Q3 q0];exact Q7 q0
      unfold q2k
      simp only [hb,qy])
  have v : (((K6 putB K0 (steps.take 0)).sec,((K6 putB K0 (steps.take 0)).done.length : Int),((0 : Nat) : Int),(K6 putB K0 (steps.take 0)).flat putB) : List qk × Int × Int × List qh) = ([],0,0,[]):=rfl;rw [v] at main;rcases main with ⟨h1,n⟩ | ⟨j,d,hb,n⟩
  · exact .inl (by rw [n];rfl)
  · refine .inr ⟨by rw [n];rfl,?_⟩;have ae : j < xs.length:=by omega
    refine ⟨xs[j],?_⟩;refine Classical.byContradiction fun y=>hb fun t c=>?_;rw [List.getElem?_eq_getElem d,a j d] at c;cases c;exact y
theorem qr3 {p q : List qh} (h : p.length + q.length≤490) (z : Int) : (atB p z).length + (atB q z).length≤490:=by
  have a:=q11 p z;have b:=q11 q z;omega
theorem q10c (kind : Int) (z : Int) : secB kind [] [] z = []:=qhi kind
theorem qxs (kind : Int) {p q : List qh} (h : p.length + q.length≤800) (b : ∀ z,(atB p z).length + (atB q z).length≤490) (hs : ∀ z,q6c kind p q z→400 < (mrgB kind p q).length) :
    ∃ o,q5i kind p q = some (o,decide ((mrgB kind p q).length≤400))∧((mrgB kind p q).length≤400→o = mrgB kind p q):=by
  rcases qxu kind h b with a | ⟨a,z,b⟩
  · refine ⟨_,?_,fun _=>rfl⟩;rw [a];have : decide (((mrgB kind p q).length : Int)≤400) = decide ((mrgB kind p q).length≤400):=decide_eq_decide.2 q0;rw [this]
  · have:=hs z b;refine ⟨[],?_,fun h=>absurd h q0⟩;rw [a,Q7 q0]
theorem q10l {l : List qh} (h : l.length≤100000) : ∀ z,q6c 2 l [] z→400 < (mrgB 2 l []).length:=by
  intro z a;have b:=qox 2 (p:=l) (q:=[]) (by simpa using h) z;rcases a with a | a | a
  · omega
  · omega
  · rw [q10c] at a;simp at a
theorem qxz (l : List qh) (_ : l.length≤1000000) {γ : Type} (f : Int→Option (Int ⊕ (Unit ⊕ γ))) (e : γ) (d : ∀ k (h : k < l.length),f (k : Int) = some (if (fun r=>!decide (vB r)) l[k] = true then .inr (.inr e) else .inl ((k + 1 : Nat) : Int))) (hd : f (l.length : Int) = some (.inr (.inl ()))) :
    loop f 0 = some (if ∀ b∈l,vB b then .inl () else .inr e):=by
  rcases U5 l (fun r=>!decide (vB r)) (fun k _=>e) () f d hd with ⟨j,a⟩ | ⟨k,c,m,_,a⟩
  · have : ∀ r∈l,vB r:=fun r g=>by simpa using j r g
    rw [qq this];exact a
  · have : ¬ ∀ r∈l,vB r:=fun h=>by simp [h _ (Ks c)] at m
    rw [qs this];exact a
theorem qxn (l : List qh) : q78 l = some (Kx l):=by
  unfold q78 Kx;by_cases d : 400 < l.length
  · rw [Qb (by omega : (l.length : Int) > 400),qz,qq d]
  rw [Q7 (by omega : ¬ (l.length : Int) > 400),qy,qs d]
  rw [qxz l q0 (q79 l) 8 (fun k c=>by
    simp only [q79,dlt c,qz,Qw c,qj,qxx,w64s c q0]
    by_cases a : vB l[k] <;> simp [a]) (by simp only [q79,dnl,qy])]
  by_cases a : ∀ r∈l,vB r
  · rw [qq a,qq a];obtain ⟨o,m,g⟩:=qxs 2 (p:=l) (q:=[]) (by simp;omega) (qr3 (by simp;omega)) (q10l q0);simp only [qj,m];by_cases f : 400 < (mrgB 2 l []).length
    · have b : mrgB 2 l []≠l:=fun h=>by rw [h] at f;exact d f
      rw [Q7 q0,qs b];rfl
    · rw [Qb q0,g q0,sameBox _ l q0];by_cases j : mrgB 2 l [] = l <;> simp [j]
  · rw [qs a,qs a];rfl
end Go.Sh
namespace Go.Sh
open Go Go.Am
def sumN : Nat→(Int→Int)→Int
  | 0,_=>0
  | n + 1,f=>sumN n f + f n
noncomputable def ind (p : Prop) : Int:=by classical exact if p then 1 else 0
theorem qa1 {p : Prop} (h : p) : ind p = 1:=by unfold ind;simp [h]
theorem Ji {p : Prop} (h : ¬ p) : ind p = 0:=by unfold ind;simp [h]
theorem qa0 {p q : Prop} (h : p↔q) : ind p = ind q:=by rw [propext h]
theorem qub {p q : Prop} : ind (p∨q) = ind p + ind q - ind (p∧q):=by
  by_cases hp : p <;> by_cases hq : q <;> simp [ind,hp,hq]
def sumL {α : Type} (f : α→Int) : List α→Int
  | []=>0
  | a::r=>f a + sumL f r
theorem qim {α : Type} (f : α→Int) (a b : List α) : sumL f (a ++ b) = sumL f a + sumL f b:=by
  induction a with
  | nil=>simp [sumL]
  | cons x a ih=>rw [List.cons_append,sumL,sumL,ih];omega
def inB (b : qh) (x y z : Int) : Prop:=(b.Lo.X≤x∧x < b.Hi.X)∧(b.Lo.Y≤y∧y < b.Hi.Y)∧(b.Lo.Z≤z∧z < b.Hi.Z)
def inR (r : qk) (x y : Int) : Prop:=(r.X0≤x∧x < r.X1)∧(r.Y0≤y∧y < r.Y1)
def inS (t : qu) (x : Int) : Prop:=t.Lo≤x∧x < t.Hi
noncomputable def cntS (s : List qu) (y : Int) : Int:=sumL (fun t=>ind (inS t y)) s
noncomputable def cntR (l : List qk) (x y : Int) : Int:=sumL (fun t=>ind (inR t x y)) l
noncomputable def cntB (l : List qh) (x y z : Int) : Int:=sumL (fun t=>ind (inB t x y z)) l
theorem qjx : ∀ {s : List qu},Can s→∀ y,cntS s y = ind (has s y)
  | [],_,y=>by rw [Ji (q2a y)];rfl
  | a::s,h,y=>by
    have b:=qjx h.tail y
    unfold cntS at b ⊢
    rw [sumL,b,qa0 (Zs (a:=a) (s:=s) (x:=y)),qub]
    have : ¬ ((a.Lo≤y∧y < a.Hi)∧has s y):=fun ⟨c,h2⟩=>by have:=h.tail_gt h2;omega
    rw [Ji this];unfold inS;omega
theorem qse (l : List qk) (x y : Int) : cntR l x y = cntS (covS l x) y:=by
  unfold cntR cntS
  induction l with
  | nil=>rfl
  | cons r l ih=>
    have e : covS (r::l) x = (if covR x r = true then [ysp r] else []) ++ covS l x:=rfl;rw [sumL,ih,e,qim];congr 1;by_cases a : covR x r = true
    · rw [qq a];have:=q6f.1 a;simp only [sumL,Int.add_zero];exact qa0 ⟨fun h=>h.2,fun h=>⟨this,h⟩⟩
    · rw [qs a];rw [q6f] at a;exact Ji fun h=>a h.1
theorem qsd (l : List qh) (x y z : Int) : cntB l x y z = cntR (atB l z) x y:=by
  unfold cntB cntR
  induction l with
  | nil=>rfl
  | cons r l ih=>
    have e : atB (r::l) z = (if covB z r = true then [Jo r] else []) ++ atB l z:=rfl;rw [sumL,ih,e,qim];congr 1;by_cases a : covB z r = true
    · rw [qq a];have:=q38.1 a;simp only [sumL,Int.add_zero];exact qa0 ⟨fun h=>⟨h.1,h.2.1⟩,fun h=>⟨h.1,h.2,this⟩⟩
    · rw [qs a];rw [q38] at a;exact Ji fun h=>a h.2.2
theorem CanR.cnt {l : List qk} (h : CanR l) (x y : Int) : cntR l x y = ind (hasR l x y):=by
  rw [qse,qjx (h.cov x),qa0 Zd]
theorem CanB.cnt {l : List qh} (h : CanB l) (x y z : Int) : cntB l x y z = ind (hasB l x y z):=by
  rw [qsd,(h.at z).cnt,qa0 q52]
end Go.Sh
namespace Go.Sh
open Go Go.Am
theorem qip (x : Int) : w64 x = if 9223372036854775808≤x % 18446744073709551616 then x % 18446744073709551616 - 18446744073709551616 else x % 18446744073709551616:=by
  unfold w64 IntKind.wrap;simp [IntKind.bits,IntKind.signed]
theorem q14x (x y : Int) (h : x % 18446744073709551616 = y % 18446744073709551616) : w64 x = w64 y:=by rw [qip,qip,h]
theorem q14y (x : Int) : w64 x % 18446744073709551616 = x % 18446744073709551616:=by rw [qip];split <;> omega
theorem qfa (a b : Int) : w64 (w64 a + b) = w64 (a + b):=q14x _ _ (by have:=q14y a;omega)
theorem qu3 {b : qh} {l : List qh} {x y z : Int} : hasB (b::l) x y z↔inB b x y z∨hasB l x y z:=by
  constructor
  · rintro ⟨c,a,h⟩;rcases List.mem_cons.1 a with rfl | a
    · exact .inl h
    · exact .inr ⟨c,a,h⟩
  · rintro (h | ⟨c,a,h⟩)
    · exact ⟨b,qe,h⟩
    · exact ⟨c,by simp [a],h⟩
instance (b : qh) (x y z : Int) : Decidable (inB b x y z):=by unfold inB;infer_instance
instance qsy : (l : List qh)→(x y z : Int)→Decidable (hasB l x y z)
  | [],x,y,z=>isFalse (qgn x y z)
  | b::l,x,y,z=>by
    have:=qsy l x y z
    exact decidable_of_iff _ qu3.symm
theorem qxq (b : qh) (v : qg) : qai b v = some (decide (inB b v.X v.Y v.Z)):=by
  unfold qai inB;by_cases f : b.Lo.X≤v.X <;> by_cases c : v.X < b.Hi.X <;> by_cases h : b.Lo.Y≤v.Y <;> by_cases d : v.Y < b.Hi.Y <;> by_cases g : b.Lo.Z≤v.Z <;> by_cases a : v.Z < b.Hi.Z <;> simp [f,c,h,d,g,a]
theorem q13i (b : qh) (v : qg) : q5y b v = some (decide (inB b v.X v.Y v.Z)):=by
  unfold q5y inB;by_cases f : b.Lo.X≤v.X <;> by_cases c : v.X < b.Hi.X <;> by_cases h : b.Lo.Y≤v.Y <;> by_cases d : v.Y < b.Hi.Y <;> by_cases g : b.Lo.Z≤v.Z <;> by_cases a : v.Z < b.Hi.Z <;> simp [f,c,h,d,g,a]
theorem qo5 (l : List qh) (v : qg) (d : l.length≤1000000) : q7a l v = some (decide (hasB l v.X v.Y v.Z)):=by
  unfold q7a
  rcases U5 l (fun b=>decide (inB b v.X v.Y v.Z)) (fun k _=>true) () (q7b l v) (fun k a=>by
    simp only [q7b,dlt a,qz,Qw a,qj,qxq,w64s a d]
    by_cases c : inB l[k] v.X v.Y v.Z <;> simp [c]) (by simp only [q7b,dnl,qy]) with ⟨h1,h2⟩ | ⟨k,a,hc,_,h2⟩
  · rw [h2];simp only [qj];congr 1;refine (Q7 ?_).symm;rintro ⟨b,hb,h⟩;have:=h1 b hb;simp at this;exact this h
  · rw [h2];simp only [qj];congr 1;refine (Qb ?_).symm;exact ⟨l[k],Ks a,of_decide_eq_true hc⟩
theorem qih (l : List qh) (v : qg) (d : l.length≤1000000) : q5x l v = some (decide (hasB l v.X v.Y v.Z)):=by
  unfold q5x Uv q82
  rcases U5 l (fun b=>decide (inB b v.X v.Y v.Z)) (fun k _=>(k : Int)) () (Jq l (fun x0=>q5y x0 v)) (fun k a=>by
    simp only [Jq,dlt a,qz,Qw a,qj,q13i,w64s a d]
    by_cases c : inB l[k] v.X v.Y v.Z <;> simp [c]) (by simp only [Jq,dnl,qy]) with ⟨h1,h2⟩ | ⟨k,a,hc,_,h2⟩
  · rw [h2];simp only [qj];congr 1;rw [show decide ((-1 : Int) ≥ 0) = false from rfl];refine (Q7 ?_).symm;rintro ⟨b,hb,h⟩;have:=h1 b hb;simp at this;exact this h
  · rw [h2];simp only [qj];congr 1;rw [Qb (by omega : (k : Int) ≥ 0)];refine (Qb ?_).symm;exact ⟨l[k],Ks a,of_decide_eq_true hc⟩
theorem qxv (l : List qh) (a : l.length≤1000000) : qak l = some l:=by
  unfold qak;rw [Kj (by simp;omega)];rfl
end Go.Sh
