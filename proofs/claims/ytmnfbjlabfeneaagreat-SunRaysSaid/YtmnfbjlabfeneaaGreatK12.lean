/- Su6 Su7 Su8 Su9 Su10 Su11 Rs1 Rs2 Rs3 Qb1 Rs4 -/
import Derived.Test.YtmnfbjlabfeneaaGreatK11
namespace Go.Sh
open Go Go.Am
def befC (a b : Int × Int) : Bool:=decide (a.1 * b.2 < b.1 * a.2)
def nfC (a : Int × Int × Int × Int) : Int × Int × Int:=if a.2.2.2 < 0 then (-(2 * a.2.1 - a.2.2.1),-(2 * a.1 - a.2.2.1),-a.2.2.2) else (2 * a.1 - a.2.2.1,2 * a.2.1 - a.2.2.1,a.2.2.2)
def minC (f : Int × Int) : Option (Int × Int)→Int × Int
  | none=>f
  | some u=>if befC f u = true then f else u
def Kp (s : Option ((Int × Int) × Option (Int × Int))) (a : Int × Int × Int × Int) : Option ((Int × Int) × Option (Int × Int)):=match s with
  | none=>none
  | some (f,t)=>if a.2.2.2 = 0 then (if 0≤2 * a.1 - a.2.2.1∨2 * a.2.1 - a.2.2.1≤0 then none else some (f,t)) else
      some (if befC f ((nfC a).1,2 * (nfC a).2.2) = true then ((nfC a).1,2 * (nfC a).2.2) else f,
        some (minC ((nfC a).2.1,2 * (nfC a).2.2) t))
def hitC (l : List (Int × Int × Int × Int)) : Option (Int × Int):=match l.foldl Kp (some ((0,1),none)) with
  | some (f,some t)=>if befC f t = true then some f else none
  | _=>none
def valC (a : Int × Int) : Rat:=fr a.1 a.2
theorem q9w {a b : Int × Int} (c : 0 < a.2) (hb : 0 < b.2) : befC a b = true↔valC a < valC b:=by
  unfold befC valC;rw [decide_eq_true_iff,q4i c hb]
def minO : Option Rat→Option Rat→Option Rat
  | none,b=>b
  | some a,none=>some a
  | some a,some b=>some (min a b)
theorem qq0 {a : Int × Int × Int × Int} (h : a.2.2.2≠0) : valC ((nfC a).1,2 * (nfC a).2.2) = Jg a.1 a.2.1 a.2.2.1 a.2.2.2∧valC ((nfC a).2.1,2 * (nfC a).2.2) = farA a.1 a.2.1 a.2.2.1 a.2.2.2∧0 < (nfC a).2.2:=by
  unfold nfC Jg farA valC;by_cases b : a.2.2.2 < 0
  · rw [qp b,qr q6,qr q6];refine ⟨?_,?_,by show (0 : Int) < -a.2.2.2;omega⟩ <;> (simp only;congr 1;omega)
  · rw [qr b,qp q6,qp q6];exact ⟨rfl,rfl,by show (0 : Int) < a.2.2.2;omega⟩
theorem qgr : ∀ l : List (Int × Int × Int × Int),l.foldl Kp none = none
  | []=>rfl
  | a::l=>qgr l
theorem qab : ∀ (l : List (Int × Int × Int × Int)) (f : Int × Int) (t : Option (Int × Int)),0 < f.2→(∀ u,t = some u→0 < u.2)→0≤valC f→
    (l.foldl Kp (some (f,t)) = none∧¬ J3 l)∨∃ k j,l.foldl Kp (some (f,t)) = some (k,j)∧J3 l∧0 < k.2∧(∀ u,j = some u→0 < u.2)∧valC k = max (valC f) (loT l)∧j.map valC = minO (t.map valC) (hiT l)
  | [],f,t,hf,ht,h0=>.inr ⟨f,t,rfl,by simp [J3],hf,ht,by unfold loT;grind,by cases t <;> rfl⟩
  | a::l,f,t,hf,ht,h0=>by
    rw [List.foldl_cons]
    by_cases d : a.2.2.2 = 0
    · by_cases hb : 0≤2 * a.1 - a.2.2.1∨2 * a.2.1 - a.2.2.1≤0
      · refine .inl ⟨?_,fun h=>?_⟩
        · rw [show Kp (some (f,t)) a = none by simp only [Kp,qp d,qp hb]];exact qgr l
        · have:=h a qd d;omega
      · rw [show Kp (some (f,t)) a = some (f,t) by simp only [Kp,qp d,qr hb]]
        have g : J3 (a::l)↔J3 l:=by
          constructor
          · intro h b hb;exact h b (by simp [hb])
          · intro h b c;rcases List.mem_cons.1 c with rfl | c
            · intro _;omega
            · exact h b c
        rw [g,loT,qp d,hiT,qp d]
        exact qab l f t hf ht h0
    · obtain ⟨o,q,n3⟩:=qq0 d
      generalize v : ((nfC a).1,2 * (nfC a).2.2) = nn at o
      generalize p : ((nfC a).2.1,2 * (nfC a).2.2) = ff at q
      have z : 0 < nn.2:=by rw [← v];show (0 : Int) < 2 * (nfC a).2.2;omega
      have s : 0 < ff.2:=by rw [← p];show (0 : Int) < 2 * (nfC a).2.2;omega
      have g : J3 (a::l)↔J3 l:=by
        constructor
        · intro h b hb;exact h b (by simp [hb])
        · intro h b c;rcases List.mem_cons.1 c with rfl | c
          · intro e;exact absurd e d
          · exact h b c
      have hs : Kp (some (f,t)) a = some (if befC f nn = true then nn else f,some (minC ff t)):=by
        simp only [Kp,qr d,v,p]
      rw [hs,g,loT,qr d,hiT,qr d]
      have q1 : 0 < (if befC f nn = true then nn else f).2:=by split <;> assumption
      have r : valC (if befC f nn = true then nn else f) = max (valC f) (valC nn):=by
        have:=q9w hf z;by_cases hb : befC f nn = true
        · rw [qp hb];have:=this.1 hb;grind
        · rw [qr hb];have : ¬ valC f < valC nn:=fun h=>hb (this.2 h);grind
      have q3 : ∀ u,(some (minC ff t) : Option (Int × Int)) = some u→0 < u.2:=by
        intro u m
        cases t with
        | none=>cases m;exact s
        | some w=>
          have n:=ht w rfl;have m:=q6t m;rw [← m];show 0 < (if befC ff w = true then ff else w).2;split <;> assumption
      have q4 : (some (minC ff t) : Option (Int × Int)).map valC = minO (t.map valC) (some (valC ff)):=by
        cases t with
        | none=>rfl
        | some w=>
          have n:=ht w rfl;have:=q9w s n;show some (valC (if befC ff w = true then ff else w)) = some (min (valC w) (valC ff));by_cases hb : befC ff w = true
          · rw [qp hb];have:=this.1 hb;congr 1;grind
          · rw [qr hb];have : ¬ valC ff < valC w:=fun h=>hb (this.2 h);congr 1;grind
      rcases qab l _ _ q1 q3 (by rw [r];grind) with h | ⟨k,j,h1,h2,x,h4,h5,y⟩
      · exact .inl h
      · refine .inr ⟨k,j,h1,h2,x,h4,?_,?_⟩
        · rw [h5,r,← o];grind
        · rw [y,q4,← q]
          cases hiT l <;> cases t <;> simp only [minO,Option.map_none,Option.map_some] <;> (try congr 1;grind)
open Classical in
theorem qaf {l : List (Int × Int × Int × Int)} : (hitC l).map valC = hitT l∧∀ u,hitC l = some u→0 < u.2∧0≤valC u:=by
  have k : valC (0,1) = 0:=by unfold valC fr;grind
  unfold hitC hitT;rcases qab l (0,1) none qt qd (by rw [k];grind) with ⟨g,f⟩ | ⟨b,o,g,f,j,m,c,a⟩
  · rw [g];refine ⟨?_,qd⟩
    cases hiT l with
    | none=>rfl
    | some h=>show none = if J3 l∧loT l < h then some (loT l) else none;rw [qr fun q=>f q.1]
  · rw [g];have c : valC b = loT l:=by rw [c,k];have:=qal l;grind
    cases o with
    | none=>
      have a : none = hiT l:=a;rw [← a];exact ⟨rfl,qd⟩
    | some u=>
      have a : some (valC u) = hiT l:=a;have p:=m u rfl;rw [← a];show Option.map valC (if befC b u = true then some b else none) = (if J3 l∧loT l < valC u then some (loT l) else none)∧∀ w,(if befC b u = true then some b else none) = some w→_;have hb:=q9w j p;rw [c] at hb;by_cases d : befC b u = true
      · rw [qp d,qp ⟨f,hb.1 d⟩];refine ⟨by rw [← c];rfl,fun w n=>?_⟩;cases n;exact ⟨j,by rw [c];exact qal l⟩
      · rw [qr d,qr fun h=>d (hb.2 h.2)];exact ⟨rfl,qd⟩
end Go.Sh
namespace Go.Sh
open Go Go.Am
abbrev axB (b : qj) (p d : Q4) : AxL:=[(b.Lo.X,b.Hi.X,p.X,d.X),(b.Lo.Y,b.Hi.Y,p.Y,d.Y),(b.Lo.Z,b.Hi.Z,p.Z,d.Z)]
theorem q7b {b : qj} {p d : Q4} {t : Rat} : Zv (axB b p d) t↔inAx b.Lo.X b.Hi.X p.X d.X t∧inAx b.Lo.Y b.Hi.Y p.Y d.Y t∧inAx b.Lo.Z b.Hi.Z p.Z d.Z t:=by
  simp [Zv,axB]
def Jw (G S : Rat→Prop) : Option Rat→Prop
  | none=>∀ t,0 < t→G t→¬ S t
  | some T=>0≤T∧(∀ t,0 < t→G t→S t→T < t)∧∃ e,T < e∧∀ t,T < t→t < e→G t→S t
def qll (G : Rat→Prop) : Prop:=∀ a b : Rat,a < b→∃ t,a < t∧t < b∧G t
theorem Jw.congr {G S d : Rat→Prop} {o : Option Rat} (h : ∀ t,0 < t→G t→(S t↔d t)) (f : Jw G S o) : Jw G d o:=by
  cases o with
  | none=>exact fun t c g s=>f t c g ((h t c g).2 s)
  | some T=>
    obtain ⟨l,m,e,k,j⟩:=f;exact ⟨l,fun t c g s=>m t c g ((h t c g).2 s),e,k,fun t a b g=>(h t (by grind) g).1 (j t a b g)⟩
theorem Jw.or {G S j : Rat→Prop} {o d : Option Rat} (f : Jw G S o) (h : Jw G j d) : Jw G (fun t=>S t∨j t) (minO o d):=by
  cases o with
  | none=>
    refine h.congr fun t c g=>?_;have:=f t c g;simp [this]
  | some T=>
    cases d with
    | none=>
      refine f.congr fun t c g=>?_;have:=h t c g;simp [this]
    | some T'=>
      obtain ⟨v,n,e,u,k⟩:=f;obtain ⟨k0,p,l,q,m⟩:=h;refine ⟨by grind,fun t c g s=>?_,?_⟩
      · rcases s with s | s
        · have:=n t c g s;grind
        · have:=p t c g s;grind
      · by_cases r : T≤T'
        · exact ⟨e,by grind,fun t a b g=>.inl (k t (by grind) b g)⟩
        · exact ⟨l,by grind,fun t a b g=>.inr (m t (by grind) b g)⟩
theorem Jw.le {G S d : Rat→Prop} {T c : Rat} (hd : qll G) (h : ∀ t,0 < t→G t→S t→d t) (f : Jw G S (some T)) (l : Jw G d (some c)) : c≤T:=by
  obtain ⟨p,s,e,o,j⟩:=f;obtain ⟨k0,k,n,m,r⟩:=l;refine Classical.byContradiction fun q=>?_;obtain ⟨t,a,b,g⟩:=hd T (min e c) (by grind);have:=k t (by grind) g (h t (by grind) g (j t a (by grind) g));grind
noncomputable def firstT (l : List qj) (p d : Q4) : Option Rat:=l.foldl (fun m b=>minO m (hitT (axB b p d))) none
def nzV (d : Q4) : Prop:=d.X≠0∨d.Y≠0∨d.Z≠0
theorem qik {b : qj} {p d : Q4} (h : nzV d) : ∃ a∈axB b p d,a.2.2.2≠0:=by
  rcases h with h | h | h
  · exact ⟨(b.Lo.X,b.Hi.X,p.X,d.X),by simp [axB],h⟩
  · exact ⟨(b.Lo.Y,b.Hi.Y,p.Y,d.Y),by simp [axB],h⟩
  · exact ⟨(b.Lo.Z,b.Hi.Z,p.Z,d.Z),by simp [axB],h⟩
def fitA (p d : Int) : Prop:=d = 0→p % 2≠0
def fitV (p d : Q4) : Prop:=fitA p.X d.X∧fitA p.Y d.Y∧fitA p.Z d.Z
def dirV (d : Q4) : Prop:=(-8≤d.X∧d.X≤8)∧(-8≤d.Y∧d.Y≤8)∧(-8≤d.Z∧d.Z≤8)
def blk (l : List qj) (p d : Q4) : Prop:=∃ b∈l,(hitC (axB b p d)).isSome = true
instance (l : List qj) (p d : Q4) : Decidable (blk l p d):=inferInstanceAs (Decidable (∃ b∈l,(hitC (axB b p d)).isSome = true))
end Go.Sh
namespace Go.Sh
open Go Go.Am
theorem mulb {x y A B : Int} (d : -A≤x∧x≤A) (b : -B≤y∧y≤B) : -(A * B)≤x * y∧x * y≤A * B:=by
  have g : (x + A) * (B - y) ≥ 0:=Int.mul_nonneg q6 q6;have f : (A - x) * (B + y) ≥ 0:=Int.mul_nonneg q6 q6;have a : (A - x) * (B - y) ≥ 0:=Int.mul_nonneg q6 q6;have c : (A + x) * (B + y) ≥ 0:=Int.mul_nonneg q6 q6;constructor
  · grind
  · grind
theorem qld {x y A B : Int} (b : -A≤x∧x≤A) (a : -B≤y∧y≤B) (h : A * B≤9000000000000000000) : w64 (x * y) = x * y:=by
  have:=mulb b a;exact Q8 q6
theorem qna (a b : Int) : q4r (a,b) = some (if b = 0 then .inr a else .inl (b,Int.tmod a b)):=by
  unfold q4r qba;by_cases hb : b = 0
  · rw [qp hb];simp [hb]
  · rw [qr hb,show ((a,b).2 != 0) = true by simpa using hb];simp [hb]
theorem qje {a b : Int} (k : -1000000000000000≤a∧a≤1000000000000000) (hb : -1000000000000000≤b∧b≤1000000000000000) : q3b a b = some (Int.gcd a b : Int):=by
  obtain ⟨x,g,j⟩:=qo1 (f:=q4r) 1000000000000000 (fun a b _ _=>qna a b) _ b a rfl q6 q6
  have h : Int.gcd a b≤1000000000000000:=by
    by_cases d : a = 0
    · subst d;simp;omega
    · have:=Int.gcd_le_natAbs_left (a:=a) b d;omega
  unfold q3b;rw [g,qh];by_cases c : x < 0
  · rw [Qb c,qy,Q8 q6];congr 1;omega
  · rw [Q6 c,Q0];congr 1;omega
theorem qdv {q : Rat} (b : -1000000000≤q.num∧q.num≤1000000000) (a : (q.den : Int)≤1000000000) : q1d (ofR q) = some 0:=by
  have hd:=Yc q;unfold q1d ofR;rw [Q6 (by show ¬ (q.den : Int) < 1;omega)];simp only [Q0,qh];rw [Q6 q6];simp only [Q0,qh];rw [Q6 q6];simp only [Q0,qh];rw [Q6 q6];simp only [Q0,qh];rw [qje q6 q6,(qi1 q).2];rfl
theorem qro {n m : Int} (a : 0 < m) (h : -1000000000000000≤n∧n≤1000000000000000) (f : m≤1000000000000000) : q1c n (Int.gcd n m : Int) = some (fr n m).num∧q1c m (Int.gcd n m : Int) = some ((fr n m).den : Int):=by
  obtain ⟨j,g⟩:=qd9 (n:=n) a;have e:=qdl j;rw [g] at e;have c : (fr n m).num = n / (Int.gcd n m : Int):=congrArg Ql.Num e;have d : ((fr n m).den : Int) = m / (Int.gcd n m : Int):=congrArg Ql.Den e;have b:=q19 a h f;have k : 0 < Int.gcd n m:=Int.gcd_pos_of_ne_zero_right n q6;unfold q1c;rw [qr q6,qr q6,Int.tdiv_eq_ediv_of_dvd (Int.gcd_dvd_left ..),Int.tdiv_eq_ediv_of_dvd (Int.gcd_dvd_right ..),← c,← d,Q8 q6,Q8 q6];exact ⟨rfl,rfl⟩
theorem qdx {n m : Int} (f : m≠0) (j : -1000000000≤n∧n≤1000000000) (k : -1000000000≤m∧m≤1000000000) : q3a n m = some (ofR (fr n m),0):=by
  unfold q3a;rw [show (m == 0) = false by simpa using f,show (n == (-9223372036854775808)) = false by simp;omega,show (m == (-9223372036854775808)) = false by simp;omega];simp only [Q0,qh]
  have key : ∀ n m : Int,0 < m→(-1000000000≤n∧n≤1000000000)→m≤1000000000→((q3b n m).bind fun d=>(q1c n d).bind fun c=>(q1c m d).bind fun a=>(q1d ({Num:=c,Den:=a} : Ql)).bind fun g=>cond (g != 0) (some (({Num:=0,Den:=0} : Ql),(16 : Int))) (some (({Num:=c,Den:=a} : Ql),0))) = some (ofR (fr n m),0):=by
    intro n m f j k;obtain ⟨l,o⟩:=qro f (n:=n) q6 q6;have b:=q19 f j k;rw [qje q6 q6,qh,l,qh,o,qh];have:=qdv (q:=fr n m) b.1 b.2.2;unfold ofR at this;rw [this];rfl
  by_cases h : m < 0
  · rw [Qb h];simp only [qy,qh];rw [Q8 q6,Q8 q6,← qcr n m,show 0 - n = -n by omega,show 0 - m = -m by omega];exact key (-n) (-m) q6 q6 q6
  · rw [Q6 h];simp only [Q0,qh];exact key n m q6 j q6
theorem qjc {a b : Rat} (f : -1000000000≤a.num∧a.num≤1000000000) (g : (a.den : Int)≤1000000000) (c : -1000000000≤b.num∧b.num≤1000000000) (d : (b.den : Int)≤1000000000) : q27 (ofR a) (ofR b) = some 0:=by
  unfold q27;rw [qdv f g,qdv c d];rfl
def smR (q : Rat) : Prop:=(-20000≤q.num∧q.num≤20000)∧(q.den : Int)≤20000
def smM (q : Rat) : Prop:=(-50000≤q.num∧q.num≤50000)∧(q.den : Int)≤20000
def smW (q : Rat) : Prop:=(-1000000000≤q.num∧q.num≤1000000000)∧(q.den : Int)≤1000000
theorem smR.w {q : Rat} (h : smR q) : smW q:=by unfold smR at h;unfold smW;omega
theorem smM.w {q : Rat} (h : smM q) : smW q:=by unfold smM at h;unfold smW;omega
theorem qja {a b : Rat} (d : smR a) (hb : smR b) : q4p (ofR a) (ofR b) = some (ofR (a + b),0):=by
  obtain ⟨h,l⟩:=d;obtain ⟨c,j⟩:=hb;have g:=Yc a;have f:=Yc b;have k:=mulb h (y:=(b.den : Int)) (B:=20000) q6;have p2:=mulb c (y:=(a.den : Int)) (B:=20000) q6;have p3:=mulb (x:=(a.den : Int)) (A:=20000) (y:=(b.den : Int)) (B:=20000) q6 q6;have p4 : 0 < (a.den : Int) * (b.den : Int):=Int.mul_pos g f;unfold q4p;rw [qjc q6 q6 q6 q6];simp only [qh,show ((0 : Int) != 0) = false from rfl,Q0];rw [show (ofR a).Num = a.num from rfl,show (ofR a).Den = (a.den : Int) from rfl,show (ofR b).Num = b.num from rfl,show (ofR b).Den = (b.den : Int) from rfl];rw [Q8 (x:=a.num * (b.den : Int)) q6,Q8 (x:=b.num * (a.den : Int)) q6,Q8 (x:=(a.den : Int) * (b.den : Int)) q6,Q8 q6];rw [qdx q6 q6 q6,qby];rfl
theorem qrp {a b : Rat} (d : smM a) (hb : (-10≤b.num∧b.num≤10)∧(b.den : Int)≤10) : q7j (ofR a) (ofR b) = some (ofR (a * b),0):=by
  obtain ⟨h,l⟩:=d;obtain ⟨c,j⟩:=hb;have g:=Yc a;have f:=Yc b;have k:=mulb h c;have p3:=mulb (x:=(a.den : Int)) (A:=20000) (y:=(b.den : Int)) (B:=10) q6 q6;have p4 : 0 < (a.den : Int) * (b.den : Int):=Int.mul_pos g f;unfold q7j;rw [qjc q6 q6 q6 q6];simp only [qh,show ((0 : Int) != 0) = false from rfl,Q0];rw [show (ofR a).Num = a.num from rfl,show (ofR a).Den = (a.den : Int) from rfl,show (ofR b).Num = b.num from rfl,show (ofR b).Den = (b.den : Int) from rfl];rw [Q8 (x:=a.num * b.num) q6,Q8 (x:=(a.den : Int) * (b.den : Int)) q6];rw [qdx q6 q6 q6,qpw];rfl
theorem qdw {a b : Rat} (d : smR a) (hb : smR b) : q4q (ofR a) (ofR b) = some (decide (a < b)):=by
  obtain ⟨f,l⟩:=d;obtain ⟨c,g⟩:=hb;have k:=Yc a;have h:=Yc b;have j:=mulb f (y:=(b.den : Int)) (B:=20000) q6;have p2:=mulb c (y:=(a.den : Int)) (B:=20000) q6;unfold q4q;rw [show (ofR a).Num = a.num from rfl,show (ofR a).Den = (a.den : Int) from rfl,show (ofR b).Num = b.num from rfl,show (ofR b).Den = (b.den : Int) from rfl];rw [Q8 (x:=a.num * (b.den : Int)) q6,Q8 (x:=b.num * (a.den : Int)) q6];congr 1;exact decide_eq_decide.2 (qhw a b)
theorem qb7 {n m : Int} (b : m≠0) (c : -1000000000≤n∧n≤1000000000) (a : -1000000000≤m∧m≤1000000000) : q2c n m = some (ofR (fr n m)):=by
  unfold q2c;rw [qdx b c a];rfl
theorem qjt {n : Int} (h : -1000000000000000≤n∧n≤1000000000000000) : q5d n = some (n.natAbs : Int):=by
  unfold q5d;by_cases a : n < 0
  · rw [Qb a,qy,Zm,Zm];congr 1;omega
  · rw [Q6 a,Q0,Zm];congr 1;omega
theorem qoi (N : Nat) (a b : Nat) : q5c ((a : Int),(b : Int)) = some (if b = 0 then .inr (a : Int) else .inl ((b : Int),((a % b : Nat) : Int))):=by
  unfold q5c remK;by_cases hb : b = 0
  · rw [qp hb];simp [hb]
  · rw [qr hb,show ((((a : Int),(b : Int)).2) != 0) = true by simp;omega];simp only [qy];rw [qr q6];simp only [qh,Option.some.injEq,Sum.inl.injEq,Prod.mk.injEq,true_and]
    first
      | (rw [Int.tmod_eq_emod_of_nonneg q6];omega)
      | omega
theorem qso (a b : Nat) : q7z (a : Int) (b : Int) = some ((Nat.gcd a b : Nat) : Int):=by
  unfold q7z;rw [qo0 (f:=q5c) (max a b) (fun a b _ _=>qoi 0 a b) b a q6 q6];rfl
theorem qsm {n m : Int} (j : 0 < m) (u : -1000000000≤n∧n≤1000000000) (t : m≤1000000000) : q7y n m = some (ofR (fr n m),0):=by
  have b:=q19 j u t;obtain ⟨q,p⟩:=qd9 (n:=n) j;have e:=qdl q;rw [p] at e;have f : (fr n m).num = n / (Int.gcd n m : Int):=congrArg Ql.Num e;have l : ((fr n m).den : Int) = m / (Int.gcd n m : Int):=congrArg Ql.Den e;have v : 0 < Int.gcd n m:=Int.gcd_pos_of_ne_zero_right n q6;unfold q7y;rw [show (m == 0) = false by simp;omega,qjt q6,qjt q6];simp only [Q0,qh];rw [qso];simp only [qh];have d : (n.natAbs.gcd m.natAbs : Nat) = Int.gcd n m:=rfl;rw [d]
  have o : quoK .u64 (n.natAbs : Int) (Int.gcd n m : Int) = some ((fr n m).num.natAbs : Int):=by
    unfold quoK;rw [qr q6,Zm];have hd : (Int.gcd n m : Int) ∣ n:=Int.gcd_dvd_left ..
    have c : (n.natAbs : Int).tdiv (Int.gcd n m : Int) = ((fr n m).num.natAbs : Int):=by
      rw [f,Int.tdiv_eq_ediv_of_nonneg q6,Int.natAbs_ediv_of_dvd hd];rfl
    rw [c];congr 1;omega
  have r : quoK .u64 (m.natAbs : Int) (Int.gcd n m : Int) = some ((fr n m).den : Int):=by
    unfold quoK;rw [qr q6,Zm,show (m.natAbs : Int) = m by omega]
    have c : m.tdiv (Int.gcd n m : Int) = ((fr n m).den : Int):=by
      rw [l,Int.tdiv_eq_ediv_of_nonneg q6]
    rw [c];congr 1;omega
  rw [o,qh,r,qh];rw [Q6 q6,Q6 q6];simp only [Q0,qh];rw [Q8 (x:=((fr n m).num.natAbs : Int)) q6,Q8 (x:=((fr n m).den : Int)) q6]
  have hs : (fr n m).num < 0↔n < 0:=by
    obtain ⟨a,k⟩:=Int.gcd_dvd_left (a:=n) (b:=m)
    have s : n / (Int.gcd n m : Int) = a:=by
      generalize Int.gcd n m = g at *;rw [k];exact Int.mul_ediv_cancel_left a q6
    rw [f,s];generalize Int.gcd n m = g at *;constructor
    · intro h;rw [k];exact Int.mul_neg_of_pos_of_neg q6 h
    · intro h;refine Classical.byContradiction fun y=>?_;have : 0≤(g : Int) * a:=Int.mul_nonneg q6 q6;omega
  unfold ofR;by_cases h : n < 0
  · rw [Qb h,Q6 (by omega : ¬ m < 0)];simp only [show (!(true == false)) = true from rfl,qy,qh];rw [Q8 q6];have:=hs.2 h;congr 3;omega
  · rw [Q6 h,Q6 (by omega : ¬ m < 0)];simp only [show (!(false == false)) = false from rfl,Q0,qh];have : ¬ (fr n m).num < 0:=fun g=>h (hs.1 g);congr 3;omega
end Go.Sh
namespace Go.Sh
open Go Go.Am
theorem q9x {a b : Kr} (f : -100000≤a.num_∧a.num_≤100000) (g : -100000≤a.den_∧a.den_≤100000) (c : -100000≤b.num_∧b.num_≤100000) (d : -100000≤b.den_∧b.den_≤100000) : q2r a b = some (befC (a.num_,a.den_) (b.num_,b.den_)):=by
  unfold q2r befC;rw [qld f d qt,qld c g qt]
def axOk (a : Int × Int × Int × Int) : Prop:=(-30≤a.1∧a.1≤30)∧(-30≤a.2.1∧a.2.1≤30)∧(-1100≤a.2.2.1∧a.2.2.1≤1100)∧(-8≤a.2.2.2∧a.2.2.2≤8)
def smP (a : Int × Int) : Prop:=(-1200≤a.1∧a.1≤1200)∧(-16≤a.2∧a.2≤16)
theorem qii {a : Int × Int × Int × Int} (h : axOk a) : (-1200≤(nfC a).1∧(nfC a).1≤1200)∧(-1200≤(nfC a).2.1∧(nfC a).2.1≤1200)∧-8≤(nfC a).2.2∧(nfC a).2.2≤8:=by
  unfold axOk at h;unfold nfC;split <;> (simp only;omega)
theorem qpq {f : Int × Int} {t : Option (Int × Int)} (a : smP f) (b : ∀ u,t = some u→smP u) : smP (minC f t):=by
  cases t with
  | none=>exact a
  | some u=>
    show smP (if befC f u = true then f else u);split
    · exact a
    · exact b u rfl
theorem qy9 {a : Int × Int × Int × Int} {f : Int × Int} {t : Option (Int × Int)} (k : axOk a) (d : smP f) (g : ∀ u,t = some u→smP u) {b : Int × Int} {c : Option (Int × Int)} (h : Kp (some (f,t)) a = some (b,c)) : smP b∧∀ u,c = some u→smP u:=by
  have j:=qii k;have l : smP ((nfC a).1,2 * (nfC a).2.2):=⟨j.1,by show -16≤2 * (nfC a).2.2∧2 * (nfC a).2.2≤16;omega⟩
  have n : smP ((nfC a).2.1,2 * (nfC a).2.2):=⟨j.2.1,by show -16≤2 * (nfC a).2.2∧2 * (nfC a).2.2≤16;omega⟩
  simp only [Kp] at h;split at h
  · split at h
    · cases h
    · cases h;exact ⟨d,g⟩
  · cases h;refine ⟨?_,fun u m=>?_⟩
    · split
      · exact l
      · exact d
    · cases m;exact qpq n g
def outC (i : Int) (tn td : Int) : Option ((Int × Int) × Option (Int × Int))→(Bool × Int × Int × Int × Int × Int) ⊕ ((Int × Int × Int × Int) ⊕ (Kr × Bool))
  | none=>.inr (.inr (({num_:=0,den_:=0} : Kr),false))
  | some (f,none)=>.inl (true,i + 1,f.1,f.2,tn,td)
  | some (f,some t)=>.inl (false,i + 1,f.1,f.2,t.1,t.2)
theorem qd1 {l g j h : Int × Int × Int} {i : Int} {a : Int × Int × Int × Int} (u : idxA 3 [l.1,l.2.1,l.2.2] i = some a.2.2.2) (s : idxA 3 [g.1,g.2.1,g.2.2] i = some a.1) (y : idxA 3 [j.1,j.2.1,j.2.2] i = some a.2.2.1) (h5 : idxA 3 [h.1,h.2.1,h.2.2] i = some a.2.1)
    (hi : 0≤i∧i < 3) (m : axOk a) {f t : Int × Int} {o : Bool} (v : smP f) (ht : smP t) :
    Um l g j h (o,i,f.1,f.2,t.1,t.2) = some (outC i t.1 t.2 (Kp (some (f,if o = true then none else some t)) a)):=by
  obtain ⟨lo,b,p,d⟩:=a;obtain ⟨fn,fd⟩:=f;obtain ⟨tn,z⟩:=t;have r:=qii m;unfold axOk at m;unfold smP at v ht;simp only at m v ht u s y h5 r;unfold Um;rw [Qb (show i < 3 from hi.2)];simp only [qy,u,s,y,h5,qh];rw [Q8 (x:=2 * lo) q6,Q8 (x:=2 * lo - p) q6,Q8 (x:=2 * b) q6,Q8 (x:=2 * b - p) q6,Q8 (x:=i + 1) q6];by_cases k : d = 0
  · rw [show (d == 0) = true by simpa using k];simp only [qy,Kp,k,if_true];by_cases hb : 2 * lo - p ≥ 0
    · rw [Qb hb];simp only [qy,qh];rw [qp (.inl hb)];rfl
    · rw [Q6 hb];simp only [Q0,qh];by_cases c : 2 * b - p≤0
      · rw [Qb c,qp (.inr c)];rfl
      · rw [Q6 c,qr q6];cases o <;> rfl
  · rw [show (d == 0) = false by simpa using k];simp only [Q0]
    have hs : ((cond (decide (d < 0)) (some (w64 (0 - d),w64 (0 - (2 * b - p)),w64 (0 - (2 * lo - p)))) (some (d,2 * lo - p,2 * b - p))) : Option (Int × Int × Int)) = some ((nfC (lo,b,p,d)).2.2,(nfC (lo,b,p,d)).1,(nfC (lo,b,p,d)).2.1):=by
      unfold nfC;by_cases hd : d < 0
      · rw [Qb hd,qp hd,qy,Q8 q6,Q8 q6,Q8 q6];simp only [Option.some.injEq,Prod.mk.injEq];omega
      · rw [Q6 hd,qr hd,Q0]
    rw [hs];simp only [Kp,qr k];generalize nfC (lo,b,p,d) = q at r;obtain ⟨n,f2,e⟩:=q;simp only at r;simp only [qh];rw [Q8 (x:=2 * e) q6,q9x (by simp only;omega) (by simp only;omega) (by simp only;omega) (by simp only;omega)];simp only [qh];have c : ((cond (befC (fn,fd) (n,2 * e)) (some (n,2 * e)) (some (fn,fd))) : Option (Int × Int)) = some (if befC (fn,fd) (n,2 * e) = true then (n,2 * e) else (fn,fd)):=by cases befC (fn,fd) (n,2 * e) <;> rfl
    rw [c];simp only [qh]
    cases o with
    | true=>rfl
    | false=>
      simp only [Q0];rw [q9x (by simp only;omega) (by simp only;omega) (by simp only;omega) (by simp only;omega)];simp only [qh,Bool.false_eq_true,if_false,minC];by_cases hq : befC (f2,2 * e) (tn,z) = true
      · rw [hq];rfl
      · rw [show befC (f2,2 * e) (tn,z) = false by simpa using hq];rfl
def Yx (b : qj) : Prop:=((-30≤b.Lo.X∧b.Lo.X≤30)∧(-30≤b.Lo.Y∧b.Lo.Y≤30)∧(-30≤b.Lo.Z∧b.Lo.Z≤30))∧((-30≤b.Hi.X∧b.Hi.X≤30)∧(-30≤b.Hi.Y∧b.Hi.Y≤30)∧(-30≤b.Hi.Z∧b.Hi.Z≤30))
def Z5 (p d : Q4) : Prop:=((-1100≤p.X∧p.X≤1100)∧(-1100≤p.Y∧p.Y≤1100)∧(-1100≤p.Z∧p.Z≤1100))∧((-8≤d.X∧d.X≤8)∧(-8≤d.Y∧d.Y≤8)∧(-8≤d.Z∧d.Z≤8))
theorem qd0 {b : qj} {p d : Q4} (hb : Yx b) (hr : Z5 p d) (ag : nzV d) : ∃ t,q6s ({p_:=p,d_:=d} : Ym) b = some (t,(hitC (axB b p d)).isSome)∧∀ u,hitC (axB b p d) = some u→t = {num_:=u.1,den_:=u.2}∧smP u:=by
  obtain ⟨⟨b1,b2,b3⟩,b4,b5,b6⟩:=hb;obtain ⟨⟨r1,r2,r3⟩,r4,r5,r6⟩:=hr;have a1 : axOk (b.Lo.X,b.Hi.X,p.X,d.X):=⟨b1,b4,r1,r4⟩
  have a2 : axOk (b.Lo.Y,b.Hi.Y,p.Y,d.Y):=⟨b2,b5,r2,r5⟩
  have a3 : axOk (b.Lo.Z,b.Hi.Z,p.Z,d.Z):=⟨b3,b6,r3,r6⟩
  unfold q6s Ul;simp only [qh];have z : smP (0,0):=⟨qt,qt⟩
  have z1 : smP (0,1):=⟨qt,qt⟩
  have fin : ∀ (o : Bool) (f t : Int × Int),smP f→smP t→Um (d.X,d.Y,d.Z) (b.Lo.X,b.Lo.Y,b.Lo.Z) (p.X,p.Y,p.Z) (b.Hi.X,b.Hi.Y,b.Hi.Z) (o,3,f.1,f.2,t.1,t.2) = some (.inr (.inl (f.1,f.2,t.1,t.2))):=fun o f t _ _=>rfl
  have st : ∀ (i : Int) (a : Int × Int × Int × Int),(i = 0∧a = (b.Lo.X,b.Hi.X,p.X,d.X))∨(i = 1∧a = (b.Lo.Y,b.Hi.Y,p.Y,d.Y))∨(i = 2∧a = (b.Lo.Z,b.Hi.Z,p.Z,d.Z))→∀ (o : Bool) (f t : Int × Int),smP f→smP t→
      (Kp (some (f,if o = true then none else some t)) a = none∧loop (Um (d.X,d.Y,d.Z) (b.Lo.X,b.Lo.Y,b.Lo.Z) (p.X,p.Y,p.Z) (b.Hi.X,b.Hi.Y,b.Hi.Z)) (o,i,f.1,f.2,t.1,t.2) = some (.inr (({num_:=0,den_:=0} : Kr),false)))∨
      ∃ (o' : Bool) (g c : Int × Int),Kp (some (f,if o = true then none else some t)) a = some (g,if o' = true then none else some c)∧smP g∧smP c∧loop (Um (d.X,d.Y,d.Z) (b.Lo.X,b.Lo.Y,b.Lo.Z) (p.X,p.Y,p.Z) (b.Hi.X,b.Hi.Y,b.Hi.Z)) (o,i,f.1,f.2,t.1,t.2) =
        loop (Um (d.X,d.Y,d.Z) (b.Lo.X,b.Lo.Y,b.Lo.Z) (p.X,p.Y,p.Z) (b.Hi.X,b.Hi.Y,b.Hi.Z)) (o',i + 1,g.1,g.2,c.1,c.2):=by
    intro i a r o f t l s
    have j : Um (d.X,d.Y,d.Z) (b.Lo.X,b.Lo.Y,b.Lo.Z) (p.X,p.Y,p.Z) (b.Hi.X,b.Hi.Y,b.Hi.Z) (o,i,f.1,f.2,t.1,t.2) = some (outC i t.1 t.2 (Kp (some (f,if o = true then none else some t)) a)):=by
      rcases r with ⟨rfl,rfl⟩ | ⟨rfl,rfl⟩ | ⟨rfl,rfl⟩
      · exact qd1 rfl rfl rfl rfl qt a1 l s
      · exact qd1 rfl rfl rfl rfl qt a2 l s
      · exact qd1 rfl rfl rfl rfl qt a3 l s
    have ac : axOk a:=by rcases r with ⟨_,rfl⟩ | ⟨_,rfl⟩ | ⟨_,rfl⟩ <;> assumption
    have al : ∀ u,(if o = true then none else some t) = some u→smP u:=by
      intro u n;by_cases ho : o = true
      · rw [qp ho] at n;cases n
      · rw [qr ho] at n;cases n;exact s
    have aj : ∀ g c,Kp (some (f,if o = true then none else some t)) a = some (g,c)→smP g∧∀ u,c = some u→smP u:=fun g c h=>qy9 ac l al h
    cases hs : Kp (some (f,if o = true then none else some t)) a with
    | none=>rw [hs] at j;exact .inl ⟨rfl,K7 j⟩
    | some q=>
      obtain ⟨g,c⟩:=q;rw [hs] at j;have h2:=aj g c hs
      cases c with
      | none=>exact .inr ⟨true,g,t,rfl,h2.1,s,Kc j⟩
      | some c=>exact .inr ⟨false,g,c,rfl,h2.1,h2.2 c rfl,Kc j⟩
  have hC : hitC (axB b p d) = match Kp (Kp (Kp (some ((0,1),none)) (b.Lo.X,b.Hi.X,p.X,d.X)) (b.Lo.Y,b.Hi.Y,p.Y,d.Y)) (b.Lo.Z,b.Hi.Z,p.Z,d.Z) with
      | some (f,some t)=>if befC f t = true then some f else none
      | _=>none:=rfl
  rw [hC];have nn : ∀ a,Kp none a = none:=fun a=>rfl;rcases st 0 _ (.inl ⟨rfl,rfl⟩) true (0,1) (0,0) z1 z with ⟨e1,l1⟩ | ⟨o1,f1,t1,e1,s1,u1,l1⟩
  · rw [l1,show Kp (some ((0,1),none)) (b.Lo.X,b.Hi.X,p.X,d.X) = none from e1,nn,nn];exact ⟨_,rfl,qd⟩
  rw [l1,show Kp (some ((0,1),none)) (b.Lo.X,b.Hi.X,p.X,d.X) = _ from e1];rcases st 1 _ (.inr (.inl ⟨rfl,rfl⟩)) o1 f1 t1 s1 u1 with ⟨v,l2⟩ | ⟨o2,f2,t2,v,s2,u2,l2⟩
  · rw [show (0 : Int) + 1 = 1 from rfl,l2,v,nn];exact ⟨_,rfl,qd⟩
  rw [show (0 : Int) + 1 = 1 from rfl,l2,v];rcases st 2 _ (.inr (.inr ⟨rfl,rfl⟩)) o2 f2 t2 s2 u2 with ⟨y,l3⟩ | ⟨o3,k,m,y,s3,u3,l3⟩
  · rw [show (1 : Int) + 1 = 2 from rfl,l3,y];exact ⟨_,rfl,qd⟩
  rw [show (1 : Int) + 1 = 2 from rfl,l3,y,show (2 : Int) + 1 = 3 from rfl,K7 (fin o3 k m s3 u3)];simp only [qh];obtain ⟨⟨c1,c2⟩,c3⟩:=s3;obtain ⟨⟨c4,c5⟩,c6⟩:=u3;rw [q9x (by simp only;omega) (by simp only;omega) (by simp only;omega) (by simp only;omega)];simp only [qh];have ak : ∀ (x : Option ((Int × Int) × Option (Int × Int))) (t : Int × Int),x = some (k,some t)→(match x with | some (f,some t)=>if befC f t = true then some f else none | _=>none) = if befC k t = true then some k else none:=fun x t h=>by rw [h]
  cases o3 with
  | true=>
    exfalso;obtain ⟨h,hh⟩:=qcx (qik (b:=b) (p:=p) ag);have hv : (0 : Rat)≤valC (0,1):=by unfold valC fr;grind
    have l : (axB b p d).foldl Kp (some ((0,1),none)) = some (k,none):=by
      show Kp (Kp (Kp (some ((0,1),none)) (b.Lo.X,b.Hi.X,p.X,d.X)) (b.Lo.Y,b.Hi.Y,p.Y,d.Y)) (b.Lo.Z,b.Hi.Z,p.Z,d.Z) = _;rw [show Kp (some ((0,1),none)) (b.Lo.X,b.Hi.X,p.X,d.X) = _ from e1,v,y];rfl
    rcases qab (axB b p d) (0,1) none qt qd hv with ⟨q,_⟩ | ⟨g,c,q1,_,_,_,_,q2⟩
    · rw [l] at q;cases q
    · rw [l] at q1;cases q1;rw [hh] at q2;cases q2
  | false=>
    rw [ak _ m qd];by_cases hq : befC k m = true
    · rw [qp hq];refine ⟨_,by rw [show befC (k.1,k.2) (m.1,m.2) = true from hq];rfl,fun u n=>?_⟩;cases n;exact ⟨rfl,⟨⟨c1,c2⟩,c3⟩⟩
    · rw [qr hq];refine ⟨_,by rw [show befC (k.1,k.2) (m.1,m.2) = false by simpa using hq];rfl,by simp⟩
end Go.Sh
namespace Go.Sh
open Go Go.Am
theorem co0 (v : Q4) : Kx v 0 = some v.X:=rfl
theorem co1 (v : Q4) : Kx v 1 = some v.Y:=rfl
theorem co2 (v : Q4) : Kx v 2 = some v.Z:=rfl
theorem qgv {m : Int} {q : Rat} {a : Int} : (a : Rat) < (m : Rat) * q↔a * (q.den : Int) < m * q.num:=by
  have hd : (0 : Rat) < ((q.den : Int) : Rat):=by exact_mod_cast Yc q
  have e : q * ((q.den : Int) : Rat) = (q.num : Rat):=by
    have:=qog (n:=q.num) (Yc q);rw [Uv] at this;exact this
  rw [← qag,Rat.intCast_mul,Rat.intCast_mul,← e];constructor
  · intro h;have : (a : Rat) * ((q.den : Int) : Rat) < (m : Rat) * q * ((q.den : Int) : Rat):=Rat.mul_lt_mul_of_pos_right h hd;grind
  · intro h;refine Rat.not_le.1 fun g=>?_;have : (m : Rat) * q * ((q.den : Int) : Rat)≤(a : Rat) * ((q.den : Int) : Rat):=Rat.mul_le_mul_of_nonneg_right g (Rat.le_of_lt hd);grind
theorem qof {m : Int} {q : Rat} {a : Int} : (m : Rat) * q < (a : Rat)↔m * q.num < a * (q.den : Int):=by
  have h:=qgv (m:=-m) (q:=q) (a:=-a);rw [Rat.intCast_neg,Rat.intCast_neg,Int.neg_mul,Int.neg_mul] at h;constructor
  · intro g;have:=h.1 (by grind);omega
  · intro g;have:=h.2 q6;grind
theorem qhl {lo hi p d : Int} {q : Rat} : inAx lo hi p d q↔2 * lo * (q.den : Int) < p * (q.den : Int) + 2 * d * q.num∧p * (q.den : Int) + 2 * d * q.num < 2 * hi * (q.den : Int):=by
  unfold inAx;have e : 2 * (d : Rat) * q = ((2 * d : Int) : Rat) * q:=by rw [Rat.intCast_mul];rfl
  rw [e,qgv,qof,Int.sub_mul,Int.sub_mul];omega
instance {lo hi p d : Int} {q : Rat} : Decidable (inAx lo hi p d q):=decidable_of_iff _ qhl.symm
theorem qeo {b : qj} {p d : Q4} {q : Rat} {i : Int} {a : Int × Int × Int × Int} (o : Kx p i = some a.2.2.1) (n : Kx d i = some a.2.2.2) (k : Kx b.Lo i = some a.1) (s : Kx b.Hi i = some a.2.1) (hi : 0≤i∧i < 3) (r : axOk a) (t : smW q) :
    q59 p d b (ofR q) i = some (if inAx a.1 a.2.1 a.2.2.1 a.2.2.2 q then .inl (i + 1) else .inr (.inr false)):=by
  obtain ⟨lo,g,f,c⟩:=a;unfold axOk at r;obtain ⟨v,u⟩:=t;have hp:=Yc q;simp only at o n k s r;unfold q59;rw [Qb hi.2];simp only [qy,o,n,k,s,qh];rw [show (ofR q).Num = q.num from rfl,show (ofR q).Den = (q.den : Int) from rfl];have z:=mulb (x:=f) (A:=1100) (y:=(q.den : Int)) (B:=1000000) q6 q6;have p2:=mulb (x:=2 * c) (A:=16) (y:=q.num) (B:=1000000000) q6 q6;have p3:=mulb (x:=2 * lo) (A:=60) (y:=(q.den : Int)) (B:=1000000) q6 q6;have p4:=mulb (x:=2 * g) (A:=60) (y:=(q.den : Int)) (B:=1000000) q6 q6;rw [Q8 (x:=f * (q.den : Int)) q6,Q8 (x:=2 * c) q6,Q8 (x:=2 * c * q.num) q6,Q8 (x:=f * (q.den : Int) + 2 * c * q.num) q6,Q8 (x:=2 * lo) q6,Q8 (x:=2 * lo * (q.den : Int)) q6,Q8 (x:=2 * g) q6,Q8 (x:=2 * g * (q.den : Int)) q6,Q8 (x:=i + 1) q6];have j:=qhl (lo:=lo) (hi:=g) (p:=f) (d:=c) (q:=q);by_cases l : f * (q.den : Int) + 2 * c * q.num≤2 * lo * (q.den : Int)
  · rw [Qb l,qr (fun h=>by have:=j.1 h;omega)];rfl
  · rw [Q6 l];simp only [Q0,qh];by_cases m : f * (q.den : Int) + 2 * c * q.num ≥ 2 * g * (q.den : Int)
    · rw [Qb m,qr (fun h=>by have:=j.1 h;omega)];rfl
    · rw [Q6 m,qp (j.2 q6)];rfl
instance {b : qj} {p d : Q4} {t : Rat} : Decidable (Zv (axB b p d) t):=decidable_of_iff _ q7b.symm
theorem qfa {b : qj} {p d : Q4} (hb : Yx b) (h : Z5 p d) : axOk (b.Lo.X,b.Hi.X,p.X,d.X)∧axOk (b.Lo.Y,b.Hi.Y,p.Y,d.Y)∧axOk (b.Lo.Z,b.Hi.Z,p.Z,d.Z):=by
  obtain ⟨⟨b1,m,j⟩,q,a,g⟩:=hb;obtain ⟨⟨n,f,c⟩,k,l,o⟩:=h;exact ⟨⟨b1,q,n,k⟩,⟨m,a,f,l⟩,⟨j,g,c,o⟩⟩
theorem qsj {b : qj} {p d : Q4} (hb : Yx b) (m : Z5 p d) {q : Rat} (l : smW q) : q7w b p d (ofR q) = some (decide (Zv (axB b p d) q)):=by
  obtain ⟨o,r,s⟩:=qfa hb m;have c:=qeo (q:=q) (co0 p) (co0 d) (co0 b.Lo) (co0 b.Hi) qt o l;have g:=qeo (q:=q) (co1 p) (co1 d) (co1 b.Lo) (co1 b.Hi) qt r l;have k:=qeo (q:=q) (co2 p) (co2 d) (co2 b.Lo) (co2 b.Hi) qt s l;have n : q59 p d b (ofR q) 3 = some (.inr (.inl ())):=rfl;unfold q7w;by_cases j : inAx b.Lo.X b.Hi.X p.X d.X q
  · rw [qp j] at c;rw [Kc c,show (0 : Int) + 1 = 1 from rfl];by_cases f : inAx b.Lo.Y b.Hi.Y p.Y d.Y q
    · rw [qp f] at g;rw [Kc g,show (1 : Int) + 1 = 2 from rfl];by_cases a : inAx b.Lo.Z b.Hi.Z p.Z d.Z q
      · rw [qp a] at k;rw [Kc k,show (2 : Int) + 1 = 3 from rfl,K7 n,Qb (q7b.2 ⟨j,f,a⟩)];rfl
      · rw [qr a] at k;rw [K7 k,Q6 fun h=>a (q7b.1 h).2.2];rfl
    · rw [qr f] at g;rw [K7 g,Q6 fun h=>f (q7b.1 h).2.1];rfl
  · rw [qr j] at c;rw [K7 c,Q6 fun h=>j (q7b.1 h).1];rfl
end Go.Sh
namespace Go.Sh
open Go Go.Am
theorem qyx {t : Rat} (p : smR t) : ∀ (n : Nat) (P S : List Rat),P.length = n→(∀ x∈P,smR x)→P.length + S.length≤1000→∀ y : Rat,
    ∃ (A B : List Rat),P = A ++ B∧(∀ x∈B,t < x)∧(∀ x∈A.getLast?,¬ t < x)∧
      (loop (Js (ofR t)) ((P.length : Int),((P ++ y::S).map ofR))).bind (fun a=>(idx a.2 a.1).bind fun j=>some (a.2.set a.1.toNat (ofR t))) = some ((A ++ t::(B ++ S)).map ofR):=by
  intro n
  induction n with
  | zero=>
    intro P S g f h y;have : P = []:=List.length_eq_zero_iff.1 g;subst this;refine ⟨[],[],rfl,qd,qd,?_⟩
    have hs : Js (ofR t) ((0 : Int),(([] ++ y::S).map ofR)) = some (.inr ((0 : Int),(([] ++ y::S).map ofR))):=by
      unfold Js;rw [Q6 (by show ¬ (0 : Int) > 0;omega)];rfl
    rw [show (([] : List Rat).length : Int) = 0 from rfl,K7 hs];rfl
  | succ n ih=>
    intro P S g f h y;rcases List.eq_nil_or_concat P with rfl | ⟨L,b,rfl⟩
    · simp at g
    have v : L.length = n:=by simpa using g
    have d : ((L.concat b).length : Int) = (L.length : Int) + 1:=by simp
    have m : (L.concat b ++ y::S).map ofR = L.map ofR ++ ofR b::ofR y::S.map ofR:=by simp
    have s : L.length + S.length≤1000:=by simp at h;omega
    have l : idx (L.map ofR ++ ofR b::ofR y::S.map ofR) (L.length : Int) = some (ofR b):=by rw [qhj];simp
    have o : idx (L.map ofR ++ ofR b::ofR y::S.map ofR) ((L.length : Int) + 1) = some (ofR y):=by
      rw [show (L.length : Int) + 1 = ((L.length + 1 : Nat) : Int) by omega,qhj];simp
    have k : w64 ((L.length : Int) + 1 - 1) = (L.length : Int):=by rw [Q8 q6];omega
    by_cases hb : t < b
    · have hs : Js (ofR t) ((L.length : Int) + 1,L.map ofR ++ ofR b::ofR y::S.map ofR) = some (.inl ((L.length : Int),L.map ofR ++ ofR b::ofR b::S.map ofR)):=by
        unfold Js;rw [Qb (by show (L.length : Int) + 1 > 0;omega)];simp only [qy,k,l,o,qh];rw [qdw p (f b qd),Qb hb];simp only [qh,qy];congr 3;rw [show ((L.length : Int) + 1).toNat = L.length + 1 by omega];rw [List.set_append,qr qd];simp
      obtain ⟨A,B,z,u,q,h4⟩:=ih L (b::S) v (fun x c=>f x (by simp [c])) (by simp at h ⊢;omega) b;refine ⟨A,B ++ [b],by rw [z];simp,?_,q,?_⟩
      · intro x c;rcases List.mem_append.1 c with c | c
        · exact u x c
        · simp only [List.mem_singleton] at c;rw [c];exact hb
      · rw [d,m,Kc hs];have r : L.map ofR ++ ofR b::ofR b::S.map ofR = (L ++ b::(b::S)).map ofR:=by simp
        rw [r,h4];simp
    · refine ⟨L.concat b,[],qd,qd,?_,?_⟩
      · intro x c;simp at c;subst c;exact hb
      · have hs : Js (ofR t) ((L.length : Int) + 1,L.map ofR ++ ofR b::ofR y::S.map ofR) = some (.inr ((L.length : Int) + 1,L.map ofR ++ ofR b::ofR y::S.map ofR)):=by
          unfold Js;rw [Qb (by show (L.length : Int) + 1 > 0;omega)];simp only [qy,k,l,qh];rw [qdw p (f b qd),Q6 hb];simp only [qh,Q0]
        rw [d,m,K7 hs];simp only [qh,o];congr 1;rw [show ((L.length : Int) + 1).toNat = L.length + 1 by omega];rw [List.set_append,qr qd];simp
theorem qoj {A : List Rat} {t : Rat} (hs : A.Pairwise (·≤·)) (h : ∀ x∈A.getLast?,¬ t < x) : ∀ x∈A,x≤t:=by
  intro x c;rcases List.eq_nil_or_concat A with rfl | ⟨L,b,rfl⟩
  · cases c
  have hb : ¬ t < b:=h b qd;rw [List.concat_eq_append] at c hs;rcases List.mem_append.1 c with a | a
  · have:=(List.pairwise_append.1 hs).2.2 x a b qd;grind
  · simp only [List.mem_singleton] at a;rw [a];grind
theorem qyy {t : Rat} (p : smR t) (u : 0 < t) {P : List Rat} (q : ∀ x∈P,smR x) (s : P.length≤100) (hs : ((0 : Rat)::P).Pairwise (·≤·)) :
    ∃ Q : List Rat,((app 16 (((0 : Rat)::P).map ofR) [ofR t]).bind fun f=>(loop (Js (ofR t)) (((((0 : Rat)::P).map ofR).length : Int),f)).bind fun b=>(idx b.2 b.1).bind fun l=>some (b.2.set b.1.toNat (ofR t))) = some (((0 : Rat)::Q).map ofR)∧
      ((0 : Rat)::Q).Pairwise (·≤·)∧(∀ x,x∈Q↔x∈P∨x = t)∧Q.length = P.length + 1:=by
  have z : smR 0:=⟨qt,qt⟩
  obtain ⟨A,B,d,j,n,o⟩:=qyx p ((0 : Rat)::P).length ((0 : Rat)::P) [] rfl (by intro x c;rcases List.mem_cons.1 c with rfl | c;exact z;exact q x c) (by simp;omega) t;rw [Y8 (by simp;omega),qh,List.length_map,show ((0 : Rat)::P).map ofR ++ [ofR t] = (((0 : Rat)::P) ++ t::[]).map ofR by simp,o]
  cases A with
  | nil=>
    have d : (0 : Rat)::P = B:=d;have:=j 0 (by rw [← d];simp);grind
  | cons a A=>
    have d : (0 : Rat)::P = a::(A ++ B):=d;obtain ⟨rfl,rfl⟩:=List.cons.inj d;refine ⟨A ++ t::B,qd,?_,?_,by simp;omega⟩
    · have m : (0::A).Pairwise (·≤·):=(List.pairwise_append.1 (show ((0::A) ++ B).Pairwise (·≤·) from hs)).1;have r : B.Pairwise (·≤·):=(List.pairwise_append.1 (show ((0::A) ++ B).Pairwise (·≤·) from hs)).2.1;have k:=qoj m n;show ((0::A) ++ t::B).Pairwise (·≤·);refine List.pairwise_append.2 ⟨m,List.pairwise_cons.2 ⟨fun x c=>by have:=j x c;grind,r⟩,fun x c y g=>?_⟩;have c:=k x c;rcases List.mem_cons.1 g with rfl | g
      · exact c
      · have:=j y g;grind
    · intro x;simp;constructor <;> intro h <;> grind
theorem qij {q : Rat} : q.num≤0↔¬ 0 < q:=by
  have h:=qhw 0 q;have b : (0 : Rat).num = 0:=rfl;have a : (0 : Rat).den = 1:=rfl;rw [b,a] at h;rw [← h];omega
theorem qgx {n m : Int} (c : m≠0) (b : -1200≤n∧n≤1200) (a : -16≤m∧m≤16) : smR (fr n m)∧((-1200≤(fr n m).num∧(fr n m).num≤1200)∧((fr n m).den : Int)≤16):=by
  by_cases h : 0 < m
  · have:=q19 h b a.2;unfold smR;omega
  · rw [← qcr];have:=q19 (n:=-n) (m:=-m) (N:=1200) (M:=16) q6 q6 q6;unfold smR;omega
structure TL (P : List Rat) (C : List Rat) : Prop where
  so : ((0 : Rat)::P).Pairwise (·≤·)
  mem : ∀ x,x∈P↔x∈C∧0 < x
  sm : ∀ x∈P,smR x∧((-1200≤x.num∧x.num≤1200)∧(x.den : Int)≤16)
  len : P.length≤C.length
theorem qkg {b : qj} {p : Q4} {i c : Int} {a : Int × Int × Int × Int} (h1 : Kx p i = some a.2.2.1) (h3 : Kx b.Lo i = some a.1) (h4 : Kx b.Hi i = some a.2.1) (ha : axOk a) (hd : a.2.2.2≠0) {X : List Ql}
    {P C : List Rat} (d : TL P C) (hC : C.length≤20) (hc : c = 0∨c = 1) :
    ∃ Q,q5b b (i,X) p a.2.2.2 (c,((0 : Rat)::P).map ofR) = some (.inl (c + 1,((0 : Rat)::Q).map ofR))∧TL Q (C ++ [fr (2 * (if c = 1 then a.2.1 else a.1) - a.2.2.1) (2 * a.2.2.2)]):=by
  obtain ⟨lo,hh,k,l⟩:=a;unfold axOk at ha;simp only at h1 h3 h4 ha hd ⊢;generalize hq : (if c = 1 then hh else lo) = q;have ai : -30≤q∧q≤30:=by rcases hc with rfl | rfl <;> simp at hq <;> omega
  have o : ((cond (c == 1) ((some hh).bind fun t=>some t) (some lo)) : Option Int) = some q:=by
    rcases hc with rfl | rfl
    · rw [← hq];rfl
    · rw [← hq];rfl
  have s:=qgx (n:=2 * q - k) (m:=2 * l) q6 q6 q6;unfold q5b;rw [Qb (by show c < 2;omega)];simp only [qy,h1,h3,h4,qh];simp only [qh] at o;rw [o];simp only [qh];rw [Q8 (x:=2 * q) q6,Q8 (x:=2 * q - k) q6,Q8 (x:=2 * l) q6,Q8 (x:=c + 1) q6,qb7 q6 q6 q6];simp only [qh];rw [show (ofR (fr (2 * q - k) (2 * l))).Num = (fr (2 * q - k) (2 * l)).num from rfl];by_cases u : (fr (2 * q - k) (2 * l)).num≤0
  · rw [Qb u];refine ⟨P,rfl,d.so,fun x=>?_,d.sm,by have:=d.len;simp;omega⟩;rw [d.mem x];have f:=qij.1 u;constructor
    · rintro ⟨r,j⟩;exact ⟨by simp [r],j⟩
    · rintro ⟨r,j⟩;rcases List.mem_append.1 r with g | g
      · exact ⟨g,j⟩
      · simp only [List.mem_singleton] at g;rw [g] at j;exact absurd j f
  · rw [Q6 u];have f : 0 < fr (2 * q - k) (2 * l):=Classical.byContradiction fun g=>u (qij.2 g);obtain ⟨Q,r,j,g3,g4⟩:=qyy s.1 f (fun x y=>(d.sm x y).1) (by have:=d.len;omega) d.so;refine ⟨Q,?_,j,fun x=>?_,fun x y=>?_,by have:=d.len;simp;omega⟩
    · simp only [Q0];rw [r];rfl
    · rw [g3 x,d.mem x];constructor
      · rintro (⟨z,v⟩ | rfl)
        · exact ⟨by simp [z],v⟩
        · exact ⟨qd,f⟩
      · rintro ⟨z,v⟩;rcases List.mem_append.1 z with g | g
        · exact .inl ⟨g,v⟩
        · simp only [List.mem_singleton] at g;exact .inr g
    · rcases (g3 x).1 y with h | rfl
      · exact d.sm x h
      · exact s
def axC (a : Int × Int × Int × Int) : List Rat:=if a.2.2.2 = 0 then [] else [fr (2 * a.1 - a.2.2.1) (2 * a.2.2.2),fr (2 * a.2.1 - a.2.2.1) (2 * a.2.2.2)]
theorem qc5 {b : qj} {p d : Q4} {i : Int} {a : Int × Int × Int × Int} (g : Kx p i = some a.2.2.1) (q : Kx d i = some a.2.2.2) (f : Kx b.Lo i = some a.1) (j : Kx b.Hi i = some a.2.1) (hi : 0≤i∧i < 3) (h : axOk a)
    {P C : List Rat} (k : TL P C) (s : C.length≤10) :
    ∃ Q,q5a d b p (i,((0 : Rat)::P).map ofR) = some (.inl (i + 1,((0 : Rat)::Q).map ofR))∧TL Q (C ++ axC a):=by
  unfold q5a axC;rw [Qb hi.2];simp only [qy,q,qh];rw [Q8 (x:=i + 1) q6];by_cases hd : a.2.2.2 = 0
  · rw [show (a.2.2.2 == 0) = true by simpa using hd,qp hd];exact ⟨P,rfl,by simpa using k⟩
  · rw [show (a.2.2.2 == 0) = false by simpa using hd,qr hd];obtain ⟨t,l,r⟩:=qkg (X:=((0 : Rat)::P).map ofR) g f j h hd k q6 (.inl rfl);obtain ⟨c,m,n⟩:=qkg (X:=((0 : Rat)::P).map ofR) g f j h hd r (by simp;omega) (.inr rfl);have o : q5b b (i,((0 : Rat)::P).map ofR) p a.2.2.2 (2,((0 : Rat)::c).map ofR) = some (.inr (((0 : Rat)::c).map ofR)):=rfl;refine ⟨c,?_,by simpa using n⟩;simp only [Q0];rw [Kc l,show (0 : Int) + 1 = 1 from rfl,Kc m,show (1 : Int) + 1 = 2 from rfl,K7 o];rfl
theorem qyw {b : qj} {p d : Q4} (hb : Yx b) (n : Z5 p d) : ∃ P,q7x b p d = some (((0 : Rat)::P).map ofR)∧TL P (axC (b.Lo.X,b.Hi.X,p.X,d.X) ++ axC (b.Lo.Y,b.Hi.Y,p.Y,d.Y) ++ axC (b.Lo.Z,b.Hi.Z,p.Z,d.Z)):=by
  obtain ⟨r,s,t⟩:=qfa hb n;have f : ∀ a,(axC a).length≤2:=fun a=>by unfold axC;split <;> simp
  have l : TL [] []:=⟨qd,qd,qd,qd⟩
  obtain ⟨v,g,k⟩:=qc5 (co0 p) (co0 d) (co0 b.Lo) (co0 b.Hi) qt r l qd;have z:=f (b.Lo.X,b.Hi.X,p.X,d.X);have y:=f (b.Lo.Y,b.Hi.Y,p.Y,d.Y);obtain ⟨x,h,o⟩:=qc5 (co1 p) (co1 d) (co1 b.Lo) (co1 b.Hi) qt s k (by simp;omega);obtain ⟨c,j,u⟩:=qc5 (co2 p) (co2 d) (co2 b.Lo) (co2 b.Hi) qt t o (by simp;omega);have m : q5a d b p (3,((0 : Rat)::c).map ofR) = some (.inr (((0 : Rat)::c).map ofR)):=rfl;refine ⟨c,?_,by simpa using u⟩;have q : fr 0 1 = 0:=by unfold fr;grind
  unfold q7x;rw [qb7 qt qt qt,q];simp only [qh];rw [show [ofR 0] = ((0 : Rat)::[]).map ofR from rfl,Kc g,show (0 : Int) + 1 = 1 from rfl,Kc h,show (1 : Int) + 1 = 2 from rfl,Kc j,show (2 : Int) + 1 = 3 from rfl,K7 m];rfl
theorem qnm {b : qj} {p d : Q4} (x : Rat) : x∈Jd (axB b p d)↔x∈axC (b.Lo.X,b.Hi.X,p.X,d.X) ++ axC (b.Lo.Y,b.Hi.Y,p.Y,d.Y) ++ axC (b.Lo.Z,b.Hi.Z,p.Z,d.Z):=by
  have key : ∀ (a : Int × Int × Int × Int) (r : AxL),x∈Jd (a::r)↔x∈axC a∨x∈Jd r:=by
    intro a r;rw [Jd];unfold axC Jg farA;by_cases c : a.2.2.2 = 0
    · simp [c]
    · rw [qr c,qr c];by_cases f : 0 < a.2.2.2
      · simp only [qp f,List.mem_cons,or_assoc,List.not_mem_nil,false_or]
      · simp only [qr f,List.mem_cons,qcr,List.not_mem_nil,or_false];constructor
        · rintro (h | h | h)
          · exact .inl (.inr h)
          · exact .inl (.inl h)
          · exact .inr h
        · rintro ((h | h) | h)
          · exact .inr (.inl h)
          · exact .inl h
          · exact .inr (.inr h)
  rw [key,key,key];simp only [List.mem_append,Jd,List.not_mem_nil,or_false,or_assoc]
theorem qh8 {a b : Rat} (c : (-1200≤a.num∧a.num≤1200)∧(a.den : Int)≤16) (hb : (-1300≤b.num∧b.num≤1300)∧(b.den : Int)≤16) : smR a∧smR b∧smM (a + b)∧smM ((a + b) / 2)∧((-10≤(1 / 2 : Rat).num∧(1 / 2 : Rat).num≤10)∧((1 / 2 : Rat).den : Int)≤10):=by
  have j:=Yc a;have d:=Yc b;have l:=mulb c.1 (y:=(b.den : Int)) (B:=16) q6;have p2:=mulb hb.1 (y:=(a.den : Int)) (B:=16) q6;have p3:=mulb (x:=(a.den : Int)) (A:=16) (y:=(b.den : Int)) (B:=16) q6 q6;have p4 : 0 < (a.den : Int) * (b.den : Int):=Int.mul_pos j d;have b1:=q19 (n:=a.num * (b.den : Int) + b.num * (a.den : Int)) (N:=40000) (M:=256) p4 q6 q6;rw [qby] at b1
  have f : (a + b) / 2 = fr ((a + b).num * 1) (((a + b).den : Int) * 2):=by
    rw [← qgw (Yc _) qt,Uv];unfold fr;rw [show ((1 : Int) : Rat) = 1 from rfl,show ((2 : Int) : Rat) = 2 from rfl];grind
  have h:=q19 (n:=(a + b).num * 1) (m:=((a + b).den : Int) * 2) (N:=40000) (M:=512) q6 q6 q6;rw [← f] at h
  have k : (1 / 2 : Rat) = fr 1 2:=by
    unfold fr;rw [show ((1 : Int) : Rat) = 1 from rfl,show ((2 : Int) : Rat) = 2 from rfl]
  have g:=q19 (n:=1) (m:=2) (N:=1) (M:=2) qt qt qt;rw [← k] at g;unfold smR smM;omega
theorem qhg {b : qj} {p d : Q4} (hb : Yx b) (hr : Z5 p d) (l : List Rat) (hl : l.length≤100) (hs : ∀ x∈l,(-1200≤x.num∧x.num≤1200)∧(x.den : Int)≤16) :
    ∀ (r : List Rat) (k : Nat),k + r.length = l.length→l.drop k = r→loop (q2b (l.map ofR) b p d) (k : Int) = some (match Zs (Zv (axB b p d)) r with | none=>.inl () | some q=>.inr (ofR q,true))
  | [],k,hk,hd=>by
    have ae : q2b (l.map ofR) b p d (k : Int) = some (.inr (.inl ())):=by
      unfold q2b;rw [Q6 (by simp at hk ⊢;omega)];rfl
    rw [K7 ae];rfl
  | a::r,k,hk,hd=>by
    have z : k < l.length:=by simp at hk;omega
    have aa : l[k] = a:=by
      have:=List.getElem_drop (xs:=l) (i:=k) (j:=0) (h:=by simp;omega);simp only [hd] at this;simpa using this.symm
    have t : l.drop (k + 1) = r:=by rw [← List.drop_drop,hd];rfl
    have i1 : idx (l.map ofR) (k : Int) = some (ofR a):=by rw [Qx (by simpa using z)];simp [aa]
    have ha:=hs a (by rw [← aa];exact Y6 z);have y : fr 1 1 = 1:=by unfold fr;rw [show ((1 : Int) : Rat) = 1 from rfl];grind
    have v : fr 1 2 = 1 / 2:=by unfold fr;rw [show ((1 : Int) : Rat) = 1 from rfl,show ((2 : Int) : Rat) = 2 from rfl]
    have ab:=qh8 ha (b:=1) ⟨qt,qt⟩;have d1:=Yc a
    have ac : (-1300≤(r.head?.getD (a + 1)).num∧(r.head?.getD (a + 1)).num≤1300)∧((r.head?.getD (a + 1)).den : Int)≤16:=by
      cases r with
      | nil=>
        show (-1300≤(a + 1).num∧(a + 1).num≤1300)∧((a + 1).den : Int)≤16
        have e : a + 1 = fr (a.num + (a.den : Int)) (a.den : Int):=by
          have:=qby a 1;rw [← this];rw [show (1 : Rat).den = 1 from rfl,show (1 : Rat).num = 1 from rfl];congr 1 <;> simp
        have:=q19 (n:=a.num + (a.den : Int)) (m:=(a.den : Int)) (N:=1300) (M:=16) d1 q6 q6;rw [← e] at this;omega
      | cons c r=>
        show (-1300≤c.num∧c.num≤1300)∧(c.den : Int)≤16;have:=hs c (List.mem_of_mem_drop (i:=k + 1) (by rw [t];simp));omega
    have g:=qh8 ha ac
    have u : ((cond (decide ((w64 ((k : Int) + 1)) < ((l.map ofR).length : Int))) ((idx (l.map ofR) (w64 ((k : Int) + 1))).bind fun s=>some (s.Num,s.Den)) (some ((ofR (a + 1)).Num,(ofR (a + 1)).Den))) : Option (Int × Int)) = some ((r.head?.getD (a + 1)).num,((r.head?.getD (a + 1)).den : Int)):=by
      rw [Q8 q6,List.length_map]
      cases r with
      | nil=>
        rw [Q6 (by simp at hk;omega)];rfl
      | cons c r=>
        have ad : k + 1 < l.length:=by simp at hk;omega
        have af : l[k + 1] = c:=by
          have:=List.getElem_drop (xs:=l) (i:=k + 1) (j:=0) (h:=by simp;omega);simp only [t] at this;simpa using this.symm
        rw [Qb q6,show (k : Int) + 1 = ((k + 1 : Nat) : Int) by omega,Qx (by simpa using ad)];simp [af,ofR]
    have f : q2b (l.map ofR) b p d (k : Int) = some (if Zv (axB b p d) ((a + r.head?.getD (a + 1)) / 2) then .inr (.inr (ofR a,true)) else .inl ((k : Int) + 1)):=by
      unfold q2b;rw [Qb (by simp;omega)];simp only [qy,i1,qh];rw [qb7 qt qt qt,y];simp only [qh];rw [qja ab.1 ab.2.1];simp only [qh];rw [u];simp only [qh];rw [show ({Num:=(r.head?.getD (a + 1)).num,Den:=((r.head?.getD (a + 1)).den : Int)} : Ql) = ofR (r.head?.getD (a + 1)) from rfl,qja g.1 g.2.1];simp only [qh];rw [qb7 qt qt qt,v];simp only [qh];rw [qrp g.2.2.1 g.2.2.2.2];simp only [qh];rw [show (a + r.head?.getD (a + 1)) * (1 / 2) = (a + r.head?.getD (a + 1)) / 2 by grind,qsj hb hr g.2.2.2.1.w];simp only [qh];by_cases o : Zv (axB b p d) ((a + r.head?.getD (a + 1)) / 2)
      · rw [Qb o,qp o];rfl
      · rw [Q6 o,qr o,Q8 q6];rfl
    by_cases o : Zv (axB b p d) ((a + r.head?.getD (a + 1)) / 2)
    · rw [qp o] at f;rw [K7 f,show Zs (Zv (axB b p d)) (a::r) = some a from qp o]
    · rw [qr o] at f;rw [Kc f,show Zs (Zv (axB b p d)) (a::r) = Zs (Zv (axB b p d)) r from qr o,show (k : Int) + 1 = ((k + 1 : Nat) : Int) by omega];exact qhg hb hr l hl hs r (k + 1) (by simp at hk ⊢;omega) t
theorem qjr {b : qj} {p d : Q4} (hb : Yx b) (k : Z5 p d) (f : nzV d) : q56 b p d = some (match hitT (axB b p d) with | none=>(({Num:=0,Den:=0} : Ql),false) | some q=>(ofR q,true)):=by
  obtain ⟨P,e,t⟩:=qyw hb k;have g : ∀ a,(axC a).length≤2:=fun a=>by unfold axC;split <;> simp
  have n:=g (b.Lo.X,b.Hi.X,p.X,d.X);have o:=g (b.Lo.Y,b.Hi.Y,p.Y,d.Y);have r:=g (b.Lo.Z,b.Hi.Z,p.Z,d.Z);have c:=t.len;simp only [List.length_append] at c
  have j:=qhg hb k ((0 : Rat)::P) (by simp;omega) (by
    intro x h;rcases List.mem_cons.1 h with rfl | h
    · exact ⟨qt,qt⟩
    · exact (t.sm x h).2) ((0 : Rat)::P) 0 qd rfl
  have m:=qov (l:=axB b p d) (P:=P) (qik f) t.so (fun x=>by rw [t.mem x,qnm]);rw [m] at j;unfold q56;rw [show ((0 : Nat) : Int) = 0 from rfl] at j;rw [e,qh,j];cases hitT (axB b p d) <;> rfl
end Go.Sh
namespace Go.Sh
open Go Go.Am
theorem qi0 {α β : Type} {f : α→Option (α ⊕ β)} (st : Nat→α) (n : Nat) (ok : Nat→Prop) (b e : β)
    (step : ∀ k,k < n→(∀ j,j≤k→ok j)→f (st k) = some (.inl (st (k + 1))))
    (bad : ∀ k,k < n→(∀ j,j < k→ok j)→¬ ok k→f (st k) = some (.inr e))
    (done : (∀ j,j < n→ok j)→f (st n) = some (.inr b)) :
    ((∀ j,j < n→ok j)∧loop f (st 0) = some b)∨(∃ j,j < n∧¬ ok j∧loop f (st 0) = some e):=by
  by_cases h : ∀ j,j < n→ok j
  · exact .inl ⟨h,Zx st n b (fun k c=>step k c fun j d=>h j q6) (done h) (Nat.zero_le _)⟩
  · refine .inr ?_
    have g : ∃ k,(k < n∧¬ ok k)∧∀ j,j < k→ok j:=by
      have : ∃ k,k < n∧¬ ok k:=by
        refine Classical.byContradiction fun o=>h fun k c=>?_;exact Classical.byContradiction fun h=>o ⟨k,c,h⟩
      obtain ⟨k,c⟩:=this
      induction k using Nat.strongRecOn with
      | _ k ih=>
        by_cases d : ∃ j,j < k∧(j < n∧¬ ok j)
        · obtain ⟨j,l,g⟩:=d;exact ih j l g
        · exact ⟨k,c,fun j l=>Classical.byContradiction fun h=>d ⟨j,l,q6,h⟩⟩
    obtain ⟨K,⟨m,hb⟩,a⟩:=g;exact ⟨K,m,hb,Zx st K e (fun k c=>step k q6 fun j d=>a j q6) (bad K m a hb) (Nat.zero_le _)⟩
theorem qxv (xs : List Int) (h : xs.length≤1000000) :
    ((Uj xs).bind fun c=>(Qz c.length xs.length).bind fun _=>(q2k c).bind fun b=>(Qz b.2.length c.length).bind fun _=>(q2s b.2.length b.1).bind fun _=>some ((b.2.drop b.1.1).take b.1.2)) = some (Qu xs):=by
  obtain ⟨ys,j,g,m⟩:=qku xs h;have f : ys.length = xs.length:=g.length_eq;obtain ⟨w,a,c1,c2,c3,c4⟩:=qfs m q6;obtain ⟨_,k,_⟩:=Jz h
  have d : a.take w = Qu xs:=by
    refine qkv (l:=xs) ⟨c4.1,fun x=>?_⟩ k;rw [c4.2 x];exact g.mem_iff
  simp only [qh,j,Qz,f,if_true,c1,c2,q2s];rw [qp q6];simp only [qh,List.drop_zero,d]
theorem qsw (l : List qq) (j : l.length≤1000000) : q87 l (fun a=>q2d a) = some (decide (¬ ∀ r∈l,vR r)):=by
  have hs : ∀ (k : Nat) (h : k < l.length),q3s l (fun a=>q2d a) (k : Int) = some (if (fun r=>!decide (vR r)) l[k] = true then .inr (.inr (k : Int)) else .inl ((k + 1 : Nat) : Int)):=by
    intro k h;simp only [q3s,dlt h,qy,Qx h,qh,w64s h j,q2d,qz3];by_cases g : vR l[k] <;> simp [g]
  have hd : q3s l (fun a=>q2d a) (l.length : Int) = some (.inr (.inl ())):=by simp only [q3s,dnl,Q0]
  unfold q87 qbh;rcases Uu l (fun r=>!decide (vR r)) (fun k _=>(k : Int)) () _ hs hd with ⟨m,b⟩ | ⟨k,d,c,_,b⟩
  · rw [b];have : ∀ r∈l,vR r:=fun r f=>by simpa using m r f
    simp [];omega
  · rw [b];have : ¬ ∀ r∈l,vR r:=fun h=>by simp [h _ (Y6 d)] at c
    simp only [qh];rw [Qb this,Qb q6]
theorem qst (l : List qq) : q5f l = some (mkR l):=by
  unfold q5f mkR;by_cases b : 400 < l.length
  · rw [Qb (by omega : (l.length : Int) > 400),qy,qp b]
  rw [Q6 (by omega : ¬ (l.length : Int) > 400),Q0,qr b,qsw l q6,qh];by_cases a : ∀ r∈l,vR r
  · rw [Q6 (fun h=>h a),Q0,qpm l q6 a,qp a];rfl
  · rw [Qb a,qy,qr a]
end Go.Sh
namespace Go.Sh
open Go Go.Am
theorem qxr (v : Q4) : q6k v = some (decide ((-1000000≤v.X∧-1000000≤v.Y∧-1000000≤v.Z)∧v.X≤1000000∧v.Y≤1000000∧v.Z≤1000000)):=by
  unfold q6k;by_cases a : min (min v.X v.Y) v.Z ≥ -1000000
  · by_cases b : max (max v.X v.Y) v.Z≤1000000
    · rw [Qb a,Qb b,qy,qh];congr 1;exact (Qb q6).symm
    · rw [Qb a,Q6 b,qy,qh];congr 1;exact (Q6 q6).symm
  · rw [Q6 a,Q0,qh];congr 1;exact (Q6 q6).symm
theorem qxs (b : qj) : q96 b = some (decide (vB b)):=by
  unfold q96 vB;simp only [qxr,qh];by_cases a : b.Lo.X < b.Hi.X
  · by_cases c : b.Lo.Y < b.Hi.Y
    · by_cases d : b.Lo.Z < b.Hi.Z
      · simp only [a,c,d,decide_true,qy,qh,true_and];by_cases f : (-1000000≤b.Lo.X∧-1000000≤b.Lo.Y∧-1000000≤b.Lo.Z)∧b.Lo.X≤1000000∧b.Lo.Y≤1000000∧b.Lo.Z≤1000000
        · rw [Qb f];simp only [qy,qh];congr 1;exact decide_eq_decide.2 q6
        · rw [Q6 f];simp only [Q0,qh];congr 1;exact (Q6 q6).symm
      · simp [a,c,d]
    · simp [a,c]
  · simp [a]
theorem qs2 (v : Q4) (n : Int) : q4y v n = some (decide ((n≤v.X∧n≤v.Y∧n≤v.Z)∧v.X≤1000000∧v.Y≤1000000∧v.Z≤1000000)):=by
  unfold q4y
  by_cases g : v.X ≥ n <;> by_cases f : v.Y ≥ n <;> by_cases a : v.Z ≥ n <;> by_cases c : v.X≤1000000 <;> by_cases d : v.Y≤1000000 <;> by_cases b : v.Z≤1000000 <;>
    simp [g,f,a,c,d,b] <;> omega
theorem qsa (b : qj) : q7r b = some (decide (vB b)):=by
  unfold q7r vB;simp only [qs2,qh];by_cases a : (-1000000≤b.Lo.X∧-1000000≤b.Lo.Y∧-1000000≤b.Lo.Z)∧b.Lo.X≤1000000∧b.Lo.Y≤1000000∧b.Lo.Z≤1000000
  · rw [Qb a];simp only [qy,qh];by_cases c : (-1000000≤b.Hi.X∧-1000000≤b.Hi.Y∧-1000000≤b.Hi.Z)∧b.Hi.X≤1000000∧b.Hi.Y≤1000000∧b.Hi.Z≤1000000
    · rw [Qb c];by_cases g : b.Lo.X < b.Hi.X <;> by_cases f : b.Lo.Y < b.Hi.Y <;> by_cases d : b.Lo.Z < b.Hi.Z <;> simp [g,f,d] <;> omega
    · rw [Q6 c];simp only [Q0,qh];congr 1;exact (Q6 q6).symm
  · rw [Q6 a];simp only [Q0,qh];congr 1;exact (Q6 q6).symm
theorem qxq (l : List qj) (j : l.length≤1000000) : q1j l (fun a=>q2o a) = some (decide (¬ ∀ r∈l,vB r)):=by
  have hs : ∀ (k : Nat) (h : k < l.length),Ui l (fun a=>q2o a) (k : Int) = some (if (fun r=>!decide (vB r)) l[k] = true then .inr (.inr (k : Int)) else .inl ((k + 1 : Nat) : Int)):=by
    intro k h;simp only [Ui,dlt h,qy,Qx h,qh,w64s h j,q2o,qxs];by_cases g : vB l[k] <;> simp [g]
  have hd : Ui l (fun a=>q2o a) (l.length : Int) = some (.inr (.inl ())):=by simp only [Ui,dnl,Q0]
  unfold q1j q8b;rcases Uu l (fun r=>!decide (vB r)) (fun k _=>(k : Int)) () _ hs hd with ⟨m,b⟩ | ⟨k,d,c,_,b⟩
  · rw [b];have : ∀ r∈l,vB r:=fun r f=>by simpa using m r f
    simp [];omega
  · rw [b];have : ¬ ∀ r∈l,vB r:=fun h=>by simp [h _ (Y6 d)] at c
    simp only [qh];rw [Qb this,Qb q6]
theorem qxo (s : Mg qq qj) (a b : Int) (c : List qq) (hl : (s.flat putB).length + c.length≤1000000) :
    q95 (s.flat putB) s.sec (s.done.length : Int) s.hi a b c = some ((addM putB s a b c).sec,((addM putB s a b c).done.length : Int),(addM putB s a b c).hi,(addM putB s a b c).flat putB):=by
  have y : (s.flat putB).length = s.done.length + s.sec.length:=by simp [Mg.flat]
  have d : s.sec.length≤1000000:=by omega
  unfold q95;rcases Up putB s a b c with ⟨m,r,t,q⟩ | ⟨m,q⟩
  · have hb : decide ((c.length : Int) > 0) = true:=Qb (by have:=List.length_pos_iff.2 m;omega);have z : (s.hi == a) = true:=by simpa using t
    rw [r] at hb;rw [q,r];simp only [hb,qy,z,qh,qg8 _ _ d,decide_true]
    have:=qa7 (fun v : qj=>({Lo:=v.Lo,Hi:=({X:=v.Hi.X,Y:=v.Hi.Y,Z:=b} : Q4)} : qj)) s.done (s.sec.map (putB s.lo s.hi)) (by simp;omega) (q6i b) (fun k o f u=>by
      have l : (s.done ++ s.sec.map (putB s.lo s.hi)).length = (s.flat putB).length:=rfl
      simp only [q6i,dlt f,qy,Qx f,qh,w64s f q6,Int.toNat_natCast]) (fun o=>by simp only [q6i,dnl,Q0])
    rw [show s.flat putB = s.done ++ s.sec.map (putB s.lo s.hi) from rfl,this];simp only [qh,Mg.flat,List.map_map];rfl
  · rw [q]
    have hc : ((cond (decide ((c.length : Int) > 0)) (some (s.hi == a)) (some false)).bind fun g=>(cond g ((q89 s.sec c).bind fun j=>some j) (some false))) = some false:=by
      by_cases l : c = []
      · subst l;simp
      · have hb : decide ((c.length : Int) > 0) = true:=Qb (by have:=List.length_pos_iff.2 l;omega);simp only [hb,qy,qh,qg8 _ _ d];by_cases p : s.hi = a
        · have x : s.sec≠c:=fun h=>m ⟨l,h.symm,p⟩;simp [p,x]
        · have : (s.hi == a) = false:=by simpa using p
          simp [this]
    have n:=q7f c (putB a b) (s.flat putB) (fun o=>(c,((s.flat putB).length : Int),b,o)) (q6j c a b (s.flat putB)) (fun k f o u=>by
      simp only [q6j,dlt f,qy,Qx f,qh,w64s f q6];rw [Y8 (by simp;omega)]
      rfl) (fun o=>by simp only [q6j,dnl,Q0])
    rw [← Option.bind_assoc,hc];simp only [qh,Q0,n];simp [Mg.flat]
theorem qzg (l : List qj) (o : List Int) (g : l.length≤400) (f : o.length≤10000) : loop (q41 l) (0,o) = some (o ++ zsOf l):=
  Jk l q6 (fun r=>[r.Lo.Z,r.Hi.Z]) o (fun o=>o) (q41 l) (fun k a c b=>by
    have d : c.length = o.length + 2 * k:=by
      rw [b,List.length_append];have:=J4 (l.take k);rw [List.length_take,Nat.min_eq_left q6] at this;unfold zsOf at this;omega
    simp only [q41,dlt a,qy,Qx a,qh,w64s a q6]
    rw [Y8 (by simp;omega)]
    rfl) (fun o=>by simp only [q41,dnl,Q0])
theorem qf8 (l : List qj) (g : l.length≤400) (x : Int) : loop (q43 l x) (0,[]) = some (atB l x):=by
  have:=Jk l q6 (fun r=>if covB x r = true then [Ug r] else []) [] (fun o=>o) (q43 l x) (fun k a o d=>by
    have f : o.length≤k:=by rw [d,List.nil_append];have:=Jx (l.take k) x;rw [List.length_take,Nat.min_eq_left q6] at this;exact this
    simp only [q43,dlt a,qy,Qx a,qh,w64s a q6];by_cases b : l[k].Lo.Z≤x
    · by_cases c : x < l[k].Hi.Z
      · simp only [b,c,decide_true,qy,qh,covB,Bool.and_self,if_true];rw [Y8 (by simp;omega)];rfl
      · simp only [b,c,decide_true,decide_false,qy,Q0,qh,covB,Bool.and_false,if_false,Bool.false_eq_true,List.append_nil]
    · simp only [b,decide_false,Q0,qh,covB,Bool.false_and,if_false,Bool.false_eq_true,List.append_nil]) (fun o=>by simp only [q43,dnl,Q0])
  rw [List.nil_append] at this;exact this
theorem qup {kind : Int} {p q : List qj} {xs : List Int} (ad : Qu (zsOf p ++ zsOf q) = xs) (h : p.length + q.length≤800) (F : Int × List qq × Int × Int × List qj→Option ((Int × List qq × Int × Int × List qj) ⊕ ((List qq × Int × Int × List qj) ⊕ (List qj × Int))))
    (ag : ∀ (a b : Int) (k : Nat) (s : Mg qq qj),(s.flat putB).length + 400≤1000000→(h1 : k + 1 < xs.length)→a = xs[k]'(q6)→b = xs[k + 1]'h1→(secB kind p q a).length≤400→
      F (((k + 1 : Nat) : Int),s.sec,(s.done.length : Int),s.hi,s.flat putB) = some (.inl (((k + 1 + 1 : Nat) : Int),(addM putB s a b (secB kind p q a)).sec,((addM putB s a b (secB kind p q a)).done.length : Int),(addM putB s a b (secB kind p q a)).hi,(addM putB s a b (secB kind p q a)).flat putB)))
    (y : ∀ (a : Int) (k : Nat) (s : Mg qq qj),(h1 : k + 1 < xs.length)→a = xs[k]'(q6)→400 < (secB kind p q a).length→
      F (((k + 1 : Nat) : Int),s.sec,(s.done.length : Int),s.hi,s.flat putB) = some (.inr (.inr ([],4))))
    (aa : ∀ (k : Nat) (s : Mg qq qj),xs.length≤k + 1→F (((k + 1 : Nat) : Int),s.sec,(s.done.length : Int),s.hi,s.flat putB) = some (.inr (.inl (s.sec,(s.done.length : Int),s.hi,s.flat putB)))) :
    (∃ a b c,loop F (1,[],0,0,[]) = some (.inl (a,b,c,mrgB kind p q)))∨(400 < (mrgB kind p q).length∧loop F (1,[],0,0,[]) = some (.inr ([],4))):=by
  have ao:=J4 p;have an:=J4 q;obtain ⟨_,ae,d⟩:=Jz (l:=zsOf p ++ zsOf q) (by simp;omega);have d : (Qu (zsOf p ++ zsOf q)).length≤1600:=by simp at d;omega
  have m : ∀ x,(secB kind p q x).length≤(mrgB kind p q).length:=fun x=>qka kind q6 x;have af : mrgB kind p q = (K5 putB K4 (Yl (Qu (zsOf p ++ zsOf q)) (secB kind p q))).flat putB:=rfl;rw [af] at m ⊢;rw [ad] at ae d m ⊢;generalize v : Yl xs (secB kind p q) = steps at m ⊢;have am : steps.length = xs.length - 1:=by rw [← v];exact q9f _ _
  have r : ∀ k (g : k < steps.length),steps[k] = (xs[k]'(q6),xs[k + 1]'(q6),secB kind p q (xs[k]'(q6))):=fun k g=>by subst v;exact q9e g q6
  have ah : ∀ k,k≤steps.length→(∀ j,j < k→∀ t,steps[j]? = some t→t.2.2.length≤400)→((K5 putB K4 (steps.take k)).flat putB).length≤1600 * 400:=fun k g n=>by
    have h1:=qcp putB (s0:=K4) (M:=400) (steps:=steps.take k) (fun t u=>by
      obtain ⟨i,hi,rfl⟩:=List.getElem_of_mem u;rw [List.length_take] at hi;rw [List.getElem_take]
      exact n i q6 _ (List.getElem?_eq_getElem q6))
    have z : (steps.take k).length≤1600:=by rw [List.length_take];omega
    have h3 : (K4.flat putB : List qj).length = 0:=rfl;have h4 : (steps.take k).length * 400≤1600 * 400:=Nat.mul_le_mul_right _ z;omega
  have main:=qi0 (f:=F) (fun k=>(((k + 1 : Nat) : Int),(K5 putB K4 (steps.take k)).sec,((K5 putB K4 (steps.take k)).done.length : Int),(K5 putB K4 (steps.take k)).hi,(K5 putB K4 (steps.take k)).flat putB))
    steps.length (fun j=>∀ t,steps[j]? = some t→t.2.2.length≤400) (.inl ((K5 putB K4 steps).sec,((K5 putB K4 steps).done.length : Int),(K5 putB K4 steps).hi,(K5 putB K4 steps).flat putB)) (.inr ([],4))
    (fun k g n=>by
      have o : k + 1 < xs.length:=by omega
      have hc:=n k (Nat.le_refl _) _ (List.getElem?_eq_getElem g);have hm:=ah k q6 fun j ak=>n j q6;rw [q4h putB g,r k g] at *;simp only at hc
      exact ag _ _ k (K5 putB K4 (steps.take k)) q6 o rfl rfl hc)
    (fun k g n hb=>by
      have o : k + 1 < xs.length:=by omega
      have al : k < xs.length:=by omega
      refine y _ k (K5 putB K4 (steps.take k)) o rfl ?_;refine Nat.lt_of_not_le fun h=>hb fun t u=>?_;rw [List.getElem?_eq_getElem g,r k g] at u
      cases u;exact h)
    (fun _=>by
      rw [List.take_length]
      exact aa steps.length _ q6)
  have ac : ((((0 + 1 : Nat) : Int),(K5 putB K4 (steps.take 0)).sec,((K5 putB K4 (steps.take 0)).done.length : Int),(K5 putB K4 (steps.take 0)).hi,(K5 putB K4 (steps.take 0)).flat putB) : Int × List qq × Int × Int × List qj) = (1,[],0,0,[]):=rfl;rw [ac] at main;rcases main with ⟨_,z⟩ | ⟨j,n,hb,z⟩
  · exact .inl ⟨_,_,_,z⟩
  · refine .inr ⟨?_,z⟩;have aj : j < xs.length:=by omega
    have h5 : 400 < (secB kind p q xs[j]).length:=by
      refine Nat.lt_of_not_le fun h=>hb fun t u=>?_;rw [List.getElem?_eq_getElem n,r j n] at u;cases u;exact h
    exact Nat.lt_of_lt_of_le h5 (m xs[j])
theorem qtf (l : List qj) (n : l.length≤400) (v : ∀ b∈l,vB b) : q97 l = some (if 400 < (mrgB 2 l []).length then ([],4) else (mrgB 2 l [],0)):=by
  unfold q97;have x:=J4 l;simp only [show idx [l] 0 = some l from rfl,qh,qzg l [] n qd,List.nil_append];rw [qxv _ q6];simp only [qh];have t : zsOf l = zsOf l ++ zsOf []:=by simp [zsOf]
  obtain ⟨_,y,d⟩:=Jz (l:=zsOf l ++ zsOf []) (by rw [← t];omega);have d : (Qu (zsOf l ++ zsOf [])).length≤800:=by rw [← t] at d ⊢;omega
  have g : ∀ z,q5f (atB l z) = some (if 400 < (secB 2 l [] z).length then ([],4) else (secB 2 l [] z,0)):=fun z=>by
    have:=Jx l z;rw [qst,mkR,qr q6,qp (qz2 v z)];rfl
  rw [t]
  have:=qup (kind:=2) (p:=l) (q:=[]) rfl (by simp;omega) (q42 (Qu (zsOf l ++ zsOf [])) l)
    (fun a b k s hs f r hb u=>by
      have h0 : k < (Qu (zsOf l ++ zsOf [])).length:=by omega
      have m : idx (Qu (zsOf l ++ zsOf [])) (w64 (((k + 1 : Nat) : Int) - 1)) = some a:=by rw [Q8 q6,r];exact q17 q6 q6
      have i2 : idx (Qu (zsOf l ++ zsOf [])) ((k + 1 : Nat) : Int) = some b:=by rw [hb];exact Qx f
      have h:=g a;rw [qr q6] at h;simp only [q42,dlt f,qy,m,i2,qh,show idx [l] 0 = some l from rfl,qf8 l n,h,show ((0 : Int) != 0) = false from rfl,Q0,qxo s a b (secB 2 l [] a) q6]
      rw [w64s f q6])
    (fun a k s f r u=>by
      have m : idx (Qu (zsOf l ++ zsOf [])) (w64 (((k + 1 : Nat) : Int) - 1)) = some a:=by rw [Q8 q6,r];exact q17 q6 q6
      have h:=g a;rw [qp u] at h
      simp only [q42,dlt f,qy,m,Qx f,qh,show idx [l] 0 = some l from rfl,qf8 l n,h,show ((4 : Int) != 0) = true from rfl])
    (fun k s f=>by
      have : decide (((k + 1 : Nat) : Int) < ((Qu (zsOf l ++ zsOf [])).length : Int)) = false:=Q6 q6
      simp only [q42,this,Q0])
  rcases this with ⟨a,b,c,o⟩ | ⟨j,o⟩
  · rw [o];simp only [qh];by_cases j : 400 < (mrgB 2 l []).length
    · rw [Qb (by omega : ((mrgB 2 l []).length : Int) > 400),qp j];rfl
    · rw [Q6 (by omega : ¬ ((mrgB 2 l []).length : Int) > 400),qr j];rfl
  · rw [o,qp j];rfl
theorem qnu (p q : List qj) (a : p.length≤1000000) : qbf p q = some (decide (p = q)):=sameBox p q a
theorem qxm (l : List qj) : q94 l = some (Zb l):=by
  unfold q94 Zb;by_cases c : 400 < l.length
  · rw [Qb (by omega : (l.length : Int) > 400),qy,qp c]
  rw [Q6 (by omega : ¬ (l.length : Int) > 400),Q0,qr c,qxq l q6,qh];by_cases a : ∀ r∈l,vB r
  · rw [Q6 (fun h=>h a),Q0,qtf l q6 a,qp a,qh];by_cases b : 400 < (mrgB 2 l []).length
    · have d : mrgB 2 l []≠l:=fun h=>by rw [h] at b;exact c b
      rw [qp b,qr d];rfl
    · rw [qr b];simp only [qnu (mrgB 2 l []) l q6];by_cases f : mrgB 2 l [] = l <;> simp [f]
  · rw [Qb a,qy,qr a]
end Go.Sh
namespace Go.Sh
open Go Go.Am
def q4a (kind : Int) (p q : List qj) (z : Int) : Prop:=400 < (secB kind p q z).length∨400 < (secB 2 p [] z).length∨400 < (secB 2 q [] z).length
theorem qp5 (kind : Int) {p q : List qj} (h : p.length + q.length≤800) (t : ∀ z,(atB p z).length + (atB q z).length≤490) {xs : List Int} (l : xs.length≤1000000) {i : Nat} (hi : i + 1 < xs.length) (hb : q4a kind p q (xs[i]'(q6))) (a : Int) (c : List qq) (o : List qj) :
    q1e xs p q kind (c,a,(i : Int),o) = some (.inr (.inr ([],false))):=by
  have b : i < xs.length:=by omega
  have j : w64 ((i : Int) + 1) = ((i + 1 : Nat) : Int):=w64s b l;have x:=Jx p xs[i];have y:=Jx q xs[i];have nz:=t xs[i];have g : Ji p xs[i] = some (atB p xs[i]):=qb0 p q6 _;have aq : Ji q xs[i] = some (atB q xs[i]):=qb0 q q6 _;have u : Zz kind (atB p xs[i]) (atB q xs[i]) = some (secB kind p q xs[i]):=q4w kind q6;have k : Zz 2 (atB p xs[i]) [] = some (secB 2 p [] xs[i]):=q4w 2 (by simp;omega);have m : Zz 2 (atB q xs[i]) [] = some (secB 2 q [] xs[i]):=q4w 2 (by simp;omega);unfold q1e;simp only [j,dlt hi,qy,Qx b,g,aq,u,k,m,qh];by_cases s : 400 < (secB kind p q xs[i]).length
  · have d : decide (((secB kind p q xs[i]).length : Int) > 400) = true:=Qb q6;simp only [d,qy,qh]
  have d : decide (((secB kind p q xs[i]).length : Int) > 400) = false:=Q6 q6;by_cases r : 400 < (secB 2 p [] xs[i]).length
  · have f : decide (((secB 2 p [] xs[i]).length : Int) > 400) = true:=Qb q6;simp only [d,f,qy,Q0,qh]
  have f : decide (((secB 2 p [] xs[i]).length : Int) > 400) = false:=Q6 q6;have v : 400 < (secB 2 q [] xs[i]).length:=by rcases hb with h | h | h <;> first | exact absurd h s | exact absurd h r | exact h
  have n : decide (((secB 2 q [] xs[i]).length : Int) > 400) = true:=Qb q6;simp only [d,f,n,qy,Q0,qh]
theorem qs8 (kind : Int) {p q : List qj} (h : p.length + q.length≤800) (hz : ∀ z,(atB p z).length + (atB q z).length≤490) :
    q3o kind p q = some (mrgB kind p q,decide (((mrgB kind p q).length : Int)≤400))∨(q3o kind p q = some ([],false)∧∃ z,q4a kind p q z):=by
  unfold q3o;rw [qs4 q6];simp only [qh];have ak:=J4 p;have aj:=J4 q;obtain ⟨_,ah,r⟩:=Jz (l:=zsOf p ++ zsOf q) (by simp;omega);have v : (Qu (zsOf p ++ zsOf q)).length≤1600:=by simp at r;omega
  unfold mrgB;generalize Qu (zsOf p ++ zsOf q) = xs at v ⊢;generalize n : Yl xs (secB kind p q) = steps;have ai : steps.length = xs.length - 1:=by rw [← n];exact q9f _ _
  have a : ∀ k (b : k < steps.length),steps[k] = (xs[k]'(q6),xs[k + 1]'(q6),secB kind p q (xs[k]'(q6))):=fun k b=>by subst n;exact q9e b q6
  have aa : ∀ k,k≤steps.length→(∀ j,j < k→∀ t,steps[j]? = some t→¬ q4a kind p q t.1)→((K5 putB K4 (steps.take k)).flat putB).length≤1600 * 400:=fun k b c=>by
    have h1:=qcp putB (s0:=K4) (M:=400) (steps:=steps.take k) (fun t g=>by
      obtain ⟨i,hi,rfl⟩:=List.getElem_of_mem g;rw [List.length_take] at hi;rw [List.getElem_take];have:=c i q6 _ (List.getElem?_eq_getElem q6);rw [a i q6] at this ⊢
      exact Nat.le_of_not_lt fun h=>this (.inl h))
    have o : (steps.take k).length≤1600:=by rw [List.length_take];omega
    have h3 : (K4.flat putB : List qj).length = 0:=rfl;have h4 : (steps.take k).length * 400≤1600 * 400:=Nat.mul_le_mul_right _ o;omega
  have main:=qi0 (f:=q1e xs p q kind) (fun k=>((K5 putB K4 (steps.take k)).sec,((K5 putB K4 (steps.take k)).done.length : Int),(k : Int),(K5 putB K4 (steps.take k)).flat putB))
    steps.length (fun j=>∀ t,steps[j]? = some t→¬ q4a kind p q t.1) (.inl ((K5 putB K4 steps).flat putB)) (.inr ([],false)) (fun k b c=>by
      have d : k + 1 < xs.length:=by omega
      have u:=c k (Nat.le_refl _) _ (List.getElem?_eq_getElem b);have hm:=aa k q6 fun j af=>c j q6;rw [a k b] at u
      have s : qeu kind p q xs[k]:=by
        refine ⟨hz _,?_,?_,?_⟩
        · exact Nat.le_of_not_lt fun h=>u (.inl h)
        · exact Nat.le_of_not_lt fun h=>u (.inr (.inl h))
        · exact Nat.le_of_not_lt fun h=>u (.inr (.inr h))
      have:=qp6 kind q6 (xs:=xs) q6 d s (K5 putB K4 (steps.take k)) q6 (fun h0=>by subst h0;rfl) (fun ab=>by
        obtain ⟨m,rfl⟩ : ∃ m,k = m + 1:=⟨k - 1,q6⟩
        rw [q4h putB q6,qev,a m q6])
      rw [this,q4h putB b,a k b])
    (fun k b _ hb=>by
      have d : k + 1 < xs.length:=by omega
      have ag : k < xs.length:=by omega
      refine qp5 kind h hz q6 d ?_ _ _ _;refine Classical.byContradiction fun x=>hb fun t g=>?_;rw [List.getElem?_eq_getElem b,a k b] at g
      cases g;exact x)
    (fun _=>by
      rw [List.take_length]
      have hb : decide (w64 ((steps.length : Int) + 1) < (xs.length : Int)) = false:=by
        rw [Q8 q6];exact Q6 q6
      unfold q1e
      simp only [hb,Q0])
  have y : (((K5 putB K4 (steps.take 0)).sec,((K5 putB K4 (steps.take 0)).done.length : Int),((0 : Nat) : Int),(K5 putB K4 (steps.take 0)).flat putB) : List qq × Int × Int × List qj) = ([],0,0,[]):=rfl;rw [y] at main;rcases main with ⟨h1,o⟩ | ⟨j,c,hb,o⟩
  · exact .inl (by rw [o];rfl)
  · refine .inr ⟨by rw [o];rfl,?_⟩;have ad : j < xs.length:=by omega
    refine ⟨xs[j],?_⟩;refine Classical.byContradiction fun x=>hb fun t g=>?_;rw [List.getElem?_eq_getElem c,a j c] at g;cases g;exact x
theorem qm0 {p q : List qj} (h : p.length + q.length≤490) (z : Int) : (atB p z).length + (atB q z).length≤490:=by
  have b:=Jx p z;have a:=Jx q z;omega
theorem quk (kind : Int) (z : Int) : secB kind [] [] z = []:=qdj kind
theorem qs6 (kind : Int) {p q : List qj} (h : p.length + q.length≤800) (a : ∀ z,(atB p z).length + (atB q z).length≤490) (hs : ∀ z,q4a kind p q z→400 < (mrgB kind p q).length) :
    ∃ o,q3o kind p q = some (o,decide ((mrgB kind p q).length≤400))∧((mrgB kind p q).length≤400→o = mrgB kind p q):=by
  rcases qs8 kind h a with b | ⟨b,z,a⟩
  · refine ⟨_,?_,fun _=>rfl⟩;rw [b];have : decide (((mrgB kind p q).length : Int)≤400) = decide ((mrgB kind p q).length≤400):=decide_eq_decide.2 q6;rw [this]
  · have:=hs z a;refine ⟨[],?_,fun h=>absurd h q6⟩;rw [b,Q6 q6]
theorem qun {l : List qj} (h : l.length≤100000) : ∀ z,q4a 2 l [] z→400 < (mrgB 2 l []).length:=by
  intro z a;have b:=qka 2 (p:=l) (q:=[]) (by simpa using h) z;rcases a with a | a | a
  · omega
  · omega
  · rw [quk] at a;simp at a
theorem qsc (l : List qj) (_ : l.length≤1000000) {γ : Type} (f : Int→Option (Int ⊕ (Unit ⊕ γ))) (e : γ) (j : ∀ k (h : k < l.length),f (k : Int) = some (if (fun r=>!decide (vB r)) l[k] = true then .inr (.inr e) else .inl ((k + 1 : Nat) : Int))) (hd : f (l.length : Int) = some (.inr (.inl ()))) :
    loop f 0 = some (if ∀ b∈l,vB b then .inl () else .inr e):=by
  rcases Uu l (fun r=>!decide (vB r)) (fun k _=>e) () f j hd with ⟨m,a⟩ | ⟨k,d,c,_,a⟩
  · have : ∀ r∈l,vB r:=fun r g=>by simpa using m r g
    rw [qp this];exact a
  · have : ¬ ∀ r∈l,vB r:=fun h=>by simp [h _ (Y6 d)] at c
    rw [qr this];exact a
theorem qs3 (l : List qj) : q50 l = some (Zb l):=by
  unfold q50 Zb;by_cases b : 400 < l.length
  · rw [Qb (by omega : (l.length : Int) > 400),qy,qp b]
  rw [Q6 (by omega : ¬ (l.length : Int) > 400),Q0,qr b]
  rw [qsc l q6 (q51 l) 8 (fun k c=>by
    simp only [q51,dlt c,qy,Qx c,qh,qsa,w64s c q6]
    by_cases a : vB l[k] <;> simp [a]) (by simp only [q51,dnl,Q0])]
  by_cases a : ∀ r∈l,vB r
  · rw [qp a,qp a];obtain ⟨o,j,g⟩:=qs6 2 (p:=l) (q:=[]) (by simp;omega) (qm0 (by simp;omega)) (qun q6);simp only [qh,j];by_cases f : 400 < (mrgB 2 l []).length
    · have d : mrgB 2 l []≠l:=fun h=>by rw [h] at f;exact b f
      rw [Q6 q6,qr d];rfl
    · rw [Qb q6,g q6,sameBox _ l q6];by_cases m : mrgB 2 l [] = l <;> simp [m]
  · rw [qr a,qr a];rfl
end Go.Sh
namespace Go.Sh
open Go Go.Am
noncomputable def ind (p : Prop) : Int:=by classical exact if p then 1 else 0
theorem qaj {p : Prop} (h : ¬ p) : ind p = 0:=by unfold ind;simp [h]
theorem q7c {p q : Prop} (h : p↔q) : ind p = ind q:=by rw [propext h]
theorem qox {p q : Prop} : ind (p∨q) = ind p + ind q - ind (p∧q):=by
  by_cases hp : p <;> by_cases a : q <;> simp [ind,hp,a]
def sumL {α : Type} (f : α→Int) : List α→Int
  | []=>0
  | a::r=>f a + sumL f r
theorem ql1 {α : Type} (f : α→Int) (a b : List α) : sumL f (a ++ b) = sumL f a + sumL f b:=by
  induction a with
  | nil=>simp [sumL]
  | cons x a ih=>rw [List.cons_append,sumL,sumL,ih];omega
def inB (b : qj) (x y z : Int) : Prop:=(b.Lo.X≤x∧x < b.Hi.X)∧(b.Lo.Y≤y∧y < b.Hi.Y)∧(b.Lo.Z≤z∧z < b.Hi.Z)
def inR (r : qq) (x y : Int) : Prop:=(r.X0≤x∧x < r.X1)∧(r.Y0≤y∧y < r.Y1)
def inS (t : qo) (x : Int) : Prop:=t.Lo≤x∧x < t.Hi
noncomputable def cntS (s : List qo) (y : Int) : Int:=sumL (fun t=>ind (inS t y)) s
noncomputable def cntR (l : List qq) (x y : Int) : Int:=sumL (fun t=>ind (inR t x y)) l
noncomputable def cntB (l : List qj) (x y z : Int) : Int:=sumL (fun t=>ind (inB t x y z)) l
theorem qfl : ∀ {s : List qo},Can s→∀ y,cntS s y = ind (has s y)
  | [],_,y=>by rw [qaj (q16 y)];rfl
  | a::s,h,y=>by
    have b:=qfl h.tail y
    unfold cntS at b ⊢
    rw [sumL,b,q7c (Zd (a:=a) (s:=s) (x:=y)),qox]
    have : ¬ ((a.Lo≤y∧y < a.Hi)∧has s y):=fun ⟨c,h2⟩=>by have:=h.tail_gt h2;omega
    rw [qaj this];unfold inS;omega
theorem qn9 (l : List qq) (x y : Int) : cntR l x y = cntS (covS l x) y:=by
  unfold cntR cntS
  induction l with
  | nil=>rfl
  | cons r l ih=>
    have e : covS (r::l) x = (if covR x r = true then [ysp r] else []) ++ covS l x:=rfl;rw [sumL,ih,e,ql1];congr 1;by_cases a : covR x r = true
    · rw [qp a];have:=q4d.1 a;simp only [sumL,Int.add_zero];exact q7c ⟨fun h=>h.2,fun h=>⟨this,h⟩⟩
    · rw [qr a];rw [q4d] at a;exact qaj fun h=>a h.1
theorem qn8 (l : List qj) (x y z : Int) : cntB l x y z = cntR (atB l z) x y:=by
  unfold cntB cntR
  induction l with
  | nil=>rfl
  | cons r l ih=>
    have e : atB (r::l) z = (if covB z r = true then [Ug r] else []) ++ atB l z:=rfl;rw [sumL,ih,e,ql1];congr 1;by_cases a : covB z r = true
    · rw [qp a];have:=q1r.1 a;simp only [sumL,Int.add_zero];exact q7c ⟨fun h=>⟨h.1,h.2.1⟩,fun h=>⟨h.1,h.2,this⟩⟩
    · rw [qr a];rw [q1r] at a;exact qaj fun h=>a h.2.2
theorem CanR.cnt {l : List qq} (h : CanR l) (x y : Int) : cntR l x y = ind (hasR l x y):=by
  rw [qn9,qfl (h.cov x),q7c Ua]
theorem CanB.cnt {l : List qj} (h : CanB l) (x y z : Int) : cntB l x y z = ind (hasB l x y z):=by
  rw [qn8,(h.at z).cnt,q7c q35]
end Go.Sh
namespace Go.Sh
open Go Go.Am
theorem qor {b : qj} {l : List qj} {x y z : Int} : hasB (b::l) x y z↔inB b x y z∨hasB l x y z:=by
  constructor
  · rintro ⟨c,a,h⟩;rcases List.mem_cons.1 a with rfl | a
    · exact .inl h
    · exact .inr ⟨c,a,h⟩
  · rintro (h | ⟨c,a,h⟩)
    · exact ⟨b,qd,h⟩
    · exact ⟨c,by simp [a],h⟩
instance (b : qj) (x y z : Int) : Decidable (inB b x y z):=by unfold inB;infer_instance
instance qno : (l : List qj)→(x y z : Int)→Decidable (hasB l x y z)
  | [],x,y,z=>isFalse (qcu x y z)
  | b::l,x,y,z=>by
    have:=qno l x y z
    exact decidable_of_iff _ qor.symm
end Go.Sh
