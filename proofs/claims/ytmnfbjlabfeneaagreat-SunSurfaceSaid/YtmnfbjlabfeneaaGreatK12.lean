/- Su6 Su7 Su8 Su9 Su10 Su11 Rs1 Rs2 Rs3 Qb1 Rs4 -/
import Derived.Test.YtmnfbjlabfeneaaGreatK11
namespace Go.Sh
open Go Go.Am
def befC (a b : Int × Int) : Bool:=decide (a.1 * b.2 < b.1 * a.2)
def nfC (a : Int × Int × Int × Int) : Int × Int × Int:=if a.2.2.2 < 0 then (-(2 * a.2.1 - a.2.2.1),-(2 * a.1 - a.2.2.1),-a.2.2.2) else (2 * a.1 - a.2.2.1,2 * a.2.1 - a.2.2.1,a.2.2.2)
def minC (f : Int × Int) : Option (Int × Int)→Int × Int
  | none=>f
  | some u=>if befC f u = true then f else u
def Kt (s : Option ((Int × Int) × Option (Int × Int))) (a : Int × Int × Int × Int) : Option ((Int × Int) × Option (Int × Int)):=match s with
  | none=>none
  | some (f,t)=>if a.2.2.2 = 0 then (if 0≤2 * a.1 - a.2.2.1∨2 * a.2.1 - a.2.2.1≤0 then none else some (f,t)) else
      some (if befC f ((nfC a).1,2 * (nfC a).2.2) = true then ((nfC a).1,2 * (nfC a).2.2) else f,
        some (minC ((nfC a).2.1,2 * (nfC a).2.2) t))
def hitC (l : List (Int × Int × Int × Int)) : Option (Int × Int):=match l.foldl Kt (some ((0,1),none)) with
  | some (f,some t)=>if befC f t = true then some f else none
  | _=>none
def valC (a : Int × Int) : Rat:=fr a.1 a.2
theorem qc8 {a b : Int × Int} (c : 0 < a.2) (hb : 0 < b.2) : befC a b = true↔valC a < valC b:=by
  unfold befC valC;rw [decide_eq_true_iff,q9a c hb]
def minO : Option Rat→Option Rat→Option Rat
  | none,b=>b
  | some a,none=>some a
  | some a,some b=>some (min a b)
theorem qww {a : Int × Int × Int × Int} (h : a.2.2.2≠0) : valC ((nfC a).1,2 * (nfC a).2.2) = q6p a.1 a.2.1 a.2.2.1 a.2.2.2∧valC ((nfC a).2.1,2 * (nfC a).2.2) = farA a.1 a.2.1 a.2.2.1 a.2.2.2∧0 < (nfC a).2.2:=by
  unfold nfC q6p farA valC;by_cases b : a.2.2.2 < 0
  · rw [qq b,qs q0,qs q0];refine ⟨?_,?_,by show (0 : Int) < -a.2.2.2;omega⟩ <;> (simp only;congr 1;omega)
  · rw [qs b,qq q0,qq q0];exact ⟨rfl,rfl,by show (0 : Int) < a.2.2.2;omega⟩
theorem qlb : ∀ l : List (Int × Int × Int × Int),l.foldl Kt none = none
  | []=>rfl
  | a::l=>qlb l
theorem qco : ∀ (l : List (Int × Int × Int × Int)) (f : Int × Int) (t : Option (Int × Int)),0 < f.2→(∀ u,t = some u→0 < u.2)→0≤valC f→
    (l.foldl Kt (some (f,t)) = none∧¬ Up l)∨∃ k j,l.foldl Kt (some (f,t)) = some (k,j)∧Up l∧0 < k.2∧(∀ u,j = some u→0 < u.2)∧valC k = max (valC f) (loT l)∧j.map valC = minO (t.map valC) (hiT l)
  | [],f,t,hf,ht,h0=>.inr ⟨f,t,rfl,by simp [Up],hf,ht,by unfold loT;grind,by cases t <;> rfl⟩
  | a::l,f,t,hf,ht,h0=>by
    rw [List.foldl_cons]
    by_cases d : a.2.2.2 = 0
    · by_cases hb : 0≤2 * a.1 - a.2.2.1∨2 * a.2.1 - a.2.2.1≤0
      · refine .inl ⟨?_,fun h=>?_⟩
        · rw [show Kt (some (f,t)) a = none by simp only [Kt,qq d,qq hb]];exact qlb l
        · have:=h a qe d;omega
      · rw [show Kt (some (f,t)) a = some (f,t) by simp only [Kt,qq d,qs hb]]
        have g : Up (a::l)↔Up l:=by
          constructor
          · intro h b hb;exact h b (by simp [hb])
          · intro h b c;rcases List.mem_cons.1 c with rfl | c
            · intro _;omega
            · exact h b c
        rw [g,loT,qq d,hiT,qq d]
        exact qco l f t hf ht h0
    · obtain ⟨r,s,n3⟩:=qww d
      generalize p : ((nfC a).1,2 * (nfC a).2.2) = nn at r
      generalize q : ((nfC a).2.1,2 * (nfC a).2.2) = ff at s
      have y : 0 < nn.2:=by rw [← p];show (0 : Int) < 2 * (nfC a).2.2;omega
      have o : 0 < ff.2:=by rw [← q];show (0 : Int) < 2 * (nfC a).2.2;omega
      have g : Up (a::l)↔Up l:=by
        constructor
        · intro h b hb;exact h b (by simp [hb])
        · intro h b c;rcases List.mem_cons.1 c with rfl | c
          · intro e;exact absurd e d
          · exact h b c
      have hs : Kt (some (f,t)) a = some (if befC f nn = true then nn else f,some (minC ff t)):=by
        simp only [Kt,qs d,p,q]
      rw [hs,g,loT,qs d,hiT,qs d]
      have q1 : 0 < (if befC f nn = true then nn else f).2:=by split <;> assumption
      have v : valC (if befC f nn = true then nn else f) = max (valC f) (valC nn):=by
        have:=qc8 hf y;by_cases hb : befC f nn = true
        · rw [qq hb];have:=this.1 hb;grind
        · rw [qs hb];have : ¬ valC f < valC nn:=fun h=>hb (this.2 h);grind
      have x : ∀ u,(some (minC ff t) : Option (Int × Int)) = some u→0 < u.2:=by
        intro u m
        cases t with
        | none=>cases m;exact o
        | some w=>
          have n:=ht w rfl;have m:=qbv m;rw [← m];show 0 < (if befC ff w = true then ff else w).2;split <;> assumption
      have z : (some (minC ff t) : Option (Int × Int)).map valC = minO (t.map valC) (some (valC ff)):=by
        cases t with
        | none=>rfl
        | some w=>
          have n:=ht w rfl;have:=qc8 o n;show some (valC (if befC ff w = true then ff else w)) = some (min (valC w) (valC ff));by_cases hb : befC ff w = true
          · rw [qq hb];have:=this.1 hb;congr 1;grind
          · rw [qs hb];have : ¬ valC ff < valC w:=fun h=>hb (this.2 h);congr 1;grind
      rcases qco l _ _ q1 x (by rw [v];grind) with h | ⟨k,j,h1,h2,h3,h4,h5,h6⟩
      · exact .inl h
      · refine .inr ⟨k,j,h1,h2,h3,h4,?_,?_⟩
        · rw [h5,v,← r];grind
        · rw [h6,z,← s]
          cases hiT l <;> cases t <;> simp only [minO,Option.map_none,Option.map_some] <;> (try congr 1;grind)
open Classical in
theorem qcu {l : List (Int × Int × Int × Int)} : (hitC l).map valC = hitT l∧∀ u,hitC l = some u→0 < u.2∧0≤valC u:=by
  have g : valC (0,1) = 0:=by unfold valC fr;grind
  unfold hitC hitT;rcases qco l (0,1) none Q3 qe (by rw [g];grind) with ⟨f,d⟩ | ⟨b,n,f,d,j,m,c,a⟩
  · rw [f];refine ⟨?_,qe⟩
    cases hiT l with
    | none=>rfl
    | some h=>show none = if Up l∧loT l < h then some (loT l) else none;rw [qs fun q=>d q.1]
  · rw [f];have c : valC b = loT l:=by rw [c,g];have:=q9i l;grind
    cases n with
    | none=>
      have a : none = hiT l:=a;rw [← a];exact ⟨rfl,qe⟩
    | some u=>
      have a : some (valC u) = hiT l:=a;have o:=m u rfl;rw [← a];show Option.map valC (if befC b u = true then some b else none) = (if Up l∧loT l < valC u then some (loT l) else none)∧∀ w,(if befC b u = true then some b else none) = some w→_;have hb:=qc8 j o;rw [c] at hb;by_cases hq : befC b u = true
      · rw [qq hq,qq ⟨d,hb.1 hq⟩];refine ⟨by rw [← c];rfl,fun w k=>?_⟩;cases k;exact ⟨j,by rw [c];exact q9i l⟩
      · rw [qs hq,qs fun h=>hq (hb.2 h.2)];exact ⟨rfl,qe⟩
end Go.Sh
namespace Go.Sh
open Go Go.Am
abbrev axB (b : qf) (p d : qh) : AxL:=[(b.Lo.X,b.Hi.X,p.X,d.X),(b.Lo.Y,b.Hi.Y,p.Y,d.Y),(b.Lo.Z,b.Hi.Z,p.Z,d.Z)]
def posA (p d : Int) (t : Rat) : Rat:=(p : Rat) + 2 * (d : Rat) * t
def genA (p d : Int) (t : Rat) : Prop:=∀ k : Int,posA p d t≠((2 * k : Int) : Rat)
def inC (x p d : Int) (t : Rat) : Prop:=((2 * x : Int) : Rat) < posA p d t∧posA p d t < ((2 * (x + 1) : Int) : Rat)
theorem qcv {a b : Int} : ((a : Rat)≤(b : Rat))↔a≤b:=by constructor <;> intro h <;> exact_mod_cast h
theorem q6c {p d : Int} {t : Rat} (h : genA p d t) : ∃ x,inC x p d t:=by
  have b:=Rat.floor_le (posA p d t / 2);have a:=Rat.lt_floor_add_one (posA p d t / 2);have c:=h (posA p d t / 2).floor;refine ⟨(posA p d t / 2).floor,?_,?_⟩
  · generalize (posA p d t / 2).floor = k at *;rw [Rat.intCast_mul] at *;have e : ((2 : Int) : Rat) = 2:=rfl;rw [e] at *;grind
  · generalize (posA p d t / 2).floor = k at *;rw [Rat.intCast_mul];have e : ((2 : Int) : Rat) = 2:=rfl;rw [e] at *;grind
theorem qgg {x y p d : Int} {t : Rat} (h : inC x p d t) (g : inC y p d t) : x = y:=by
  have b : ((2 * x : Int) : Rat) < ((2 * (y + 1) : Int) : Rat):=by have:=h.1;have:=g.2;grind
  have a : ((2 * y : Int) : Rat) < ((2 * (x + 1) : Int) : Rat):=by have:=g.1;have:=h.2;grind
  rw [q4f] at b a;omega
theorem qvn {lo hi p d : Int} {t : Rat} : inAx lo hi p d t↔((2 * lo : Int) : Rat) < posA p d t∧posA p d t < ((2 * hi : Int) : Rat):=by
  unfold inAx posA;rw [Rat.intCast_sub,Rat.intCast_sub];constructor <;> rintro ⟨a,b⟩ <;> constructor <;> grind
theorem q6d {x lo hi p d : Int} {t : Rat} (h : inC x p d t) : inAx lo hi p d t↔lo≤x∧x < hi:=by
  rw [qvn];obtain ⟨j,g⟩:=h;constructor
  · rintro ⟨f,c⟩;have a : ((2 * lo : Int) : Rat) < ((2 * (x + 1) : Int) : Rat):=by grind
    have b : ((2 * x : Int) : Rat) < ((2 * hi : Int) : Rat):=by grind
    rw [q4f] at a b;omega
  · rintro ⟨f,c⟩;have a : ((2 * lo : Int) : Rat)≤((2 * x : Int) : Rat):=qcv.2 q0;have b : ((2 * (x + 1) : Int) : Rat)≤((2 * hi : Int) : Rat):=qcv.2 q0;constructor <;> grind
def gen (p d : qh) (t : Rat) : Prop:=genA p.X d.X t∧genA p.Y d.Y t∧genA p.Z d.Z t
def rayS (P : Int→Int→Int→Prop) (p d : qh) (t : Rat) : Prop:=∃ x y z,P x y z∧inC x p.X d.X t∧inC y p.Y d.Y t∧inC z p.Z d.Z t
theorem qcy {b : qf} {p d : qh} {t : Rat} : q16 (axB b p d) t↔inAx b.Lo.X b.Hi.X p.X d.X t∧inAx b.Lo.Y b.Hi.Y p.Y d.Y t∧inAx b.Lo.Z b.Hi.Z p.Z d.Z t:=by
  simp [q16,axB]
theorem qzs {l : List qf} {p d : qh} {t : Rat} (h : gen p d t) : rayS (hasB l) p d t↔∃ b∈l,q16 (axB b p d) t:=by
  obtain ⟨x,c⟩:=q6c h.1;obtain ⟨y,a⟩:=q6c h.2.1;obtain ⟨z,f⟩:=q6c h.2.2;constructor
  · rintro ⟨n,q,o,⟨b,hb,g⟩,j,k,m⟩;refine ⟨b,hb,?_⟩;rw [qcy,q6d j,q6d k,q6d m];exact g
  · rintro ⟨b,hb,g⟩;rw [qcy,q6d c,q6d a,q6d f] at g;exact ⟨x,y,z,⟨b,hb,g⟩,c,a,f⟩
def Y9 (G S : Rat→Prop) : Option Rat→Prop
  | none=>∀ t,0 < t→G t→¬ S t
  | some T=>0≤T∧(∀ t,0 < t→G t→S t→T < t)∧∃ e,T < e∧∀ t,T < t→t < e→G t→S t
def qez (G : Rat→Prop) : Prop:=∀ a b : Rat,a < b→∃ t,a < t∧t < b∧G t
theorem Y9.congr {G S d : Rat→Prop} {o : Option Rat} (h : ∀ t,0 < t→G t→(S t↔d t)) (f : Y9 G S o) : Y9 G d o:=by
  cases o with
  | none=>exact fun t c g s=>f t c g ((h t c g).2 s)
  | some T=>
    obtain ⟨l,k,e,j,m⟩:=f;exact ⟨l,fun t c g s=>k t c g ((h t c g).2 s),e,j,fun t a b g=>(h t (by grind) g).1 (m t a b g)⟩
theorem Y9.or {G S j : Rat→Prop} {o h : Option Rat} (f : Y9 G S o) (d : Y9 G j h) : Y9 G (fun t=>S t∨j t) (minO o h):=by
  cases o with
  | none=>
    refine d.congr fun t c g=>?_;have:=f t c g;simp [this]
  | some T=>
    cases h with
    | none=>
      refine f.congr fun t c g=>?_;have:=d t c g;simp [this]
    | some T'=>
      obtain ⟨r,n,e,q,l⟩:=f;obtain ⟨k0,k,p,u,m⟩:=d;refine ⟨by grind,fun t c g s=>?_,?_⟩
      · rcases s with s | s
        · have:=n t c g s;grind
        · have:=k t c g s;grind
      · by_cases v : T≤T'
        · exact ⟨e,by grind,fun t a b g=>.inl (l t (by grind) b g)⟩
        · exact ⟨p,by grind,fun t a b g=>.inr (m t (by grind) b g)⟩
theorem Y9.le {G S d : Rat→Prop} {T c : Rat} (hd : qez G) (h : ∀ t,0 < t→G t→S t→d t) (f : Y9 G S (some T)) (k : Y9 G d (some c)) : c≤T:=by
  obtain ⟨n,r,e,m,l⟩:=f;obtain ⟨k0,j,s,p,q⟩:=k;refine Classical.byContradiction fun o=>?_;obtain ⟨t,a,b,g⟩:=hd T (min e c) (by grind);have:=j t (by grind) g (h t (by grind) g (l t a (by grind) g));grind
theorem Y9.unique {G S : Rat→Prop} (hd : qez G) {o d : Option Rat} (f : Y9 G S o) (c : Y9 G S d) : o = d:=by
  have key : ∀ {T : Rat},Y9 G S none→Y9 G S (some T)→False:=by
    intro T h ⟨l,m,e,j,k⟩;obtain ⟨t,a,b,g⟩:=hd T e j;exact h t (by grind) g (k t a b g)
  cases o with
  | none=>cases d with
    | none=>rfl
    | some T=>exact (key f c).elim
  | some T=>cases d with
    | none=>exact (key c f).elim
    | some T'=>
      have a:=Y9.le hd (fun t _ _ s=>s) f c;have b:=Y9.le hd (fun t _ _ s=>s) c f;congr 1;grind
theorem qvd {G : Rat→Prop} {l : AxL} (g : ∃ a∈l,a.2.2.2≠0) : Y9 G (q16 l) (hitT l):=by
  obtain ⟨h,c⟩:=qct g;have d:=q9i l;unfold hitT;rw [c];simp only;split
  · rename_i q;exact ⟨d,fun t f _ s=>((q9e c f).1 s).2.1,h,q.2,fun t a b _=>(q9e c (by grind)).2 ⟨q.1,a,b⟩⟩
  · rename_i q;exact fun t f _ s=>q (by have:=(q9e c f).1 s;exact ⟨this.1,by grind⟩)
noncomputable def firstT (l : List qf) (p d : qh) : Option Rat:=l.foldl (fun m b=>minO m (hitT (axB b p d))) none
def nzV (d : qh) : Prop:=d.X≠0∨d.Y≠0∨d.Z≠0
theorem qd4 {b : qf} {p d : qh} (h : nzV d) : ∃ a∈axB b p d,a.2.2.2≠0:=by
  rcases h with h | h | h
  · exact ⟨(b.Lo.X,b.Hi.X,p.X,d.X),by simp [axB],h⟩
  · exact ⟨(b.Lo.Y,b.Hi.Y,p.Y,d.Y),by simp [axB],h⟩
  · exact ⟨(b.Lo.Z,b.Hi.Z,p.Z,d.Z),by simp [axB],h⟩
theorem ql2 {G : Rat→Prop} {p d : qh} (hd : nzV d) : ∀ (l : List qf) (S : Rat→Prop) (o : Option Rat),Y9 G S o→
    Y9 G (fun t=>S t∨∃ b∈l,q16 (axB b p d) t) (l.foldl (fun m b=>minO m (hitT (axB b p d))) o)
  | [],S,o,h=>h.congr fun t _ _=>by simp
  | b::l,S,o,h=>by
    rw [List.foldl_cons]
    refine (ql2 hd l _ _ (h.or (qvd (qd4 hd)))).congr fun t _ _=>?_
    simp only [List.mem_cons,exists_eq_or_imp,or_assoc]
theorem ql1 {l : List qf} {p d : qh} (hd : nzV d) : Y9 (gen p d) (rayS (hasB l) p d) (firstT l p d):=by
  refine (ql2 hd l (fun _=>False) none (fun t _ _ h=>h)).congr fun t _ g=>?_;rw [qzs g];simp
def fitA (p d : Int) : Prop:=d = 0→p % 2≠0
theorem qg1 {p d : Int} {t : Rat} (c : fitA p d) (hd : -8≤d∧d≤8) (h : ∀ n : Int,1680 * t≠(n : Rat)) : genA p d t:=by
  intro k a;by_cases b : d = 0
  · have : posA p d t = (p : Rat):=by unfold posA;rw [b,show ((0 : Int) : Rat) = 0 from rfl];grind
    rw [this] at a;have a : p = 2 * k:=by exact_mod_cast a
    have:=c b;omega
  · obtain ⟨m,g⟩ : ∃ m : Int,m * d = 840:=by
      have : d = -8∨d = -7∨d = -6∨d = -5∨d = -4∨d = -3∨d = -2∨d = -1∨d = 1∨d = 2∨d = 3∨d = 4∨d = 5∨d = 6∨d = 7∨d = 8:=by omega
      rcases this with e | e | e | e | e | e | e | e | e | e | e | e | e | e | e | e <;> subst e
      · exact ⟨-105,rfl⟩
      · exact ⟨-120,rfl⟩
      · exact ⟨-140,rfl⟩
      · exact ⟨-168,rfl⟩
      · exact ⟨-210,rfl⟩
      · exact ⟨-280,rfl⟩
      · exact ⟨-420,rfl⟩
      · exact ⟨-840,rfl⟩
      · exact ⟨840,rfl⟩
      · exact ⟨420,rfl⟩
      · exact ⟨280,rfl⟩
      · exact ⟨210,rfl⟩
      · exact ⟨168,rfl⟩
      · exact ⟨140,rfl⟩
      · exact ⟨120,rfl⟩
      · exact ⟨105,rfl⟩
    refine h (m * (2 * k - p)) ?_
    have f : (m : Rat) * (d : Rat) = 840:=by
      have : ((m * d : Int) : Rat) = ((840 : Int) : Rat):=by rw [g]
      rw [Rat.intCast_mul] at this;exact this
    unfold posA at a;rw [Rat.intCast_mul,Rat.intCast_sub];have : (m : Rat) * (((2 * k : Int) : Rat) - (p : Rat)) = (m : Rat) * (2 * (d : Rat) * t):=by rw [← a];grind
    rw [this];grind
theorem qwy (a b : Rat) (h : a < b) : ∃ t,a < t∧t < b∧∀ n : Int,1680 * t≠(n : Rat):=by
  have l:=Rat.floor_le (1680 * a);have g:=Rat.lt_floor_add_one (1680 * a);generalize (1680 * a).floor = k at *;have c : ((k + 1 : Int) : Rat) = (k : Rat) + 1:=by rw [Rat.intCast_add];rfl
  rw [c] at g;refine ⟨(a + min b (((k : Rat) + 1) / 1680)) / 2,by grind,by grind,fun n d=>?_⟩;have f : (k : Rat) < (n : Rat):=by rw [← d];grind
  have j : (n : Rat) < ((k + 1 : Int) : Rat):=by rw [c,← d];grind
  rw [q4f] at f j;omega
def fitV (p d : qh) : Prop:=fitA p.X d.X∧fitA p.Y d.Y∧fitA p.Z d.Z
def dirV (d : qh) : Prop:=(-8≤d.X∧d.X≤8)∧(-8≤d.Y∧d.Y≤8)∧(-8≤d.Z∧d.Z≤8)
theorem qv1 {p d : qh} (c : fitV p d) (hd : dirV d) : qez (gen p d):=fun a b h=>by
  obtain ⟨t,j,g,f⟩:=qwy a b h
  exact ⟨t,j,g,qg1 c.1 hd.1 f,qg1 c.2.1 hd.2.1 f,qg1 c.2.2 hd.2.2 f⟩
def blk (l : List qf) (p d : qh) : Prop:=∃ b∈l,(hitC (axB b p d)).isSome = true
instance (l : List qf) (p d : qh) : Decidable (blk l p d):=inferInstanceAs (Decidable (∃ b∈l,(hitC (axB b p d)).isSome = true))
theorem qla {α : Type} (g : α→Option Rat) : ∀ (l : List α) (o : Option Rat),(l.foldl (fun m b=>minO m (g b)) o).isSome = true↔o.isSome = true∨∃ b∈l,(g b).isSome = true
  | [],o=>by simp
  | b::l,o=>by
    rw [List.foldl_cons,qla g l]
    have : (minO o (g b)).isSome = true↔o.isSome = true∨(g b).isSome = true:=by cases o <;> cases g b <;> simp [minO]
    rw [this];simp [or_assoc]
theorem qjj {l : List qf} {p d : qh} : blk l p d↔(firstT l p d).isSome = true:=by
  unfold firstT blk;rw [qla];have : ∀ b : qf,(hitC (axB b p d)).isSome = (hitT (axB b p d)).isSome:=fun b=>by rw [← (qcu (l:=axB b p d)).1,Option.isSome_map]
  simp [this]
end Go.Sh
namespace Go.Sh
open Go Go.Am
theorem mulb {x y A B : Int} (g : -A≤x∧x≤A) (c : -B≤y∧y≤B) : -(A * B)≤x * y∧x * y≤A * B:=by
  have d : (x + A) * (B - y) ≥ 0:=Int.mul_nonneg q0 q0;have a : (A - x) * (B + y) ≥ 0:=Int.mul_nonneg q0 q0;have f : (A - x) * (B - y) ≥ 0:=Int.mul_nonneg q0 q0;have b : (A + x) * (B + y) ≥ 0:=Int.mul_nonneg q0 q0;constructor
  · grind
  · grind
theorem qqu {x y A B : Int} (b : -A≤x∧x≤A) (a : -B≤y∧y≤B) (h : A * B≤9000000000000000000) : w64 (x * y) = x * y:=by
  have:=mulb b a;exact qv q0
def smR (q : Rat) : Prop:=(-20000≤q.num∧q.num≤20000)∧(q.den : Int)≤20000
def smM (q : Rat) : Prop:=(-50000≤q.num∧q.num≤50000)∧(q.den : Int)≤20000
def smW (q : Rat) : Prop:=(-1000000000≤q.num∧q.num≤1000000000)∧(q.den : Int)≤1000000
theorem smR.w {q : Rat} (h : smR q) : smW q:=by unfold smR at h;unfold smW;omega
theorem smM.w {q : Rat} (h : smM q) : smW q:=by unfold smM at h;unfold smW;omega
theorem qoe {n : Int} (h : -1000000000000000≤n∧n≤1000000000000000) : q75 n = some (n.natAbs : Int):=by
  unfold q75;by_cases a : n < 0
  · rw [Qb a,qz,Jc,Jc];congr 1;omega
  · rw [Q8 a,qy,Jc];congr 1;omega
theorem qv0 (N : Nat) (a b : Nat) : q74 ((a : Int),(b : Int)) = some (if b = 0 then .inr (a : Int) else .inl ((b : Int),((a % b : Nat) : Int))):=by
  unfold q74 remK;by_cases hb : b = 0
  · rw [qq hb];simp [hb]
  · rw [qs hb,show ((((a : Int),(b : Int)).2) != 0) = true by simp;omega];simp only [qz];rw [qs q0];simp only [qj,Option.some.injEq,Sum.inl.injEq,Prod.mk.injEq,true_and]
    first
      | (rw [Int.tmod_eq_emod_of_nonneg q0];omega)
      | omega
theorem qzq (a b : Nat) : qa1 (a : Int) (b : Int) = some ((Nat.gcd a b : Nat) : Int):=by
  unfold qa1;rw [qu4 (f:=q74) (max a b) (fun a b _ _=>qv0 0 a b) b a q0 q0];rfl
theorem qzo {n m : Int} (f : 0 < m) (p : -1000000000≤n∧n≤1000000000) (o : m≤1000000000) : qa0 n m = some (ofR (fr n m),0):=by
  have b:=qx0 f p o;obtain ⟨r,l⟩:=qmy (n:=n) f;have e:=qgz r;rw [l] at e;have j : (fr n m).num = n / (Int.gcd n m : Int):=congrArg Yk.Num e;have t : ((fr n m).den : Int) = m / (Int.gcd n m : Int):=congrArg Yk.Den e;have v : 0 < Int.gcd n m:=Int.gcd_pos_of_ne_zero_right n q0;unfold qa0;rw [show (m == 0) = false by simp;omega,qoe q0,qoe q0];simp only [qy,qj];rw [qzq];simp only [qj];have c : (n.natAbs.gcd m.natAbs : Nat) = Int.gcd n m:=rfl;rw [c]
  have q : quoK .u64 (n.natAbs : Int) (Int.gcd n m : Int) = some ((fr n m).num.natAbs : Int):=by
    unfold quoK;rw [qs q0,Jc];have hd : (Int.gcd n m : Int) ∣ n:=Int.gcd_dvd_left ..
    have d : (n.natAbs : Int).tdiv (Int.gcd n m : Int) = ((fr n m).num.natAbs : Int):=by
      rw [j,Int.tdiv_eq_ediv_of_nonneg q0,Int.natAbs_ediv_of_dvd hd];rfl
    rw [d];congr 1;omega
  have u : quoK .u64 (m.natAbs : Int) (Int.gcd n m : Int) = some ((fr n m).den : Int):=by
    unfold quoK;rw [qs q0,Jc,show (m.natAbs : Int) = m by omega]
    have d : m.tdiv (Int.gcd n m : Int) = ((fr n m).den : Int):=by
      rw [t,Int.tdiv_eq_ediv_of_nonneg q0]
    rw [d];congr 1;omega
  rw [q,qj,u,qj];rw [Q8 q0,Q8 q0];simp only [qy,qj];rw [qv (x:=((fr n m).num.natAbs : Int)) q0,qv (x:=((fr n m).den : Int)) q0]
  have hs : (fr n m).num < 0↔n < 0:=by
    obtain ⟨a,k⟩:=Int.gcd_dvd_left (a:=n) (b:=m)
    have s : n / (Int.gcd n m : Int) = a:=by
      generalize Int.gcd n m = g at *;rw [k];exact Int.mul_ediv_cancel_left a q0
    rw [j,s];generalize Int.gcd n m = g at *;constructor
    · intro h;rw [k];exact Int.mul_neg_of_pos_of_neg q0 h
    · intro h;refine Classical.byContradiction fun y=>?_;have : 0≤(g : Int) * a:=Int.mul_nonneg q0 q0;omega
  unfold ofR;by_cases h : n < 0
  · rw [Qb h,Q8 (by omega : ¬ m < 0)];simp only [show (!(true == false)) = true from rfl,qz,qj];rw [qv q0];have:=hs.2 h;congr 3;omega
  · rw [Q8 h,Q8 (by omega : ¬ m < 0)];simp only [show (!(false == false)) = false from rfl,qy,qj];have : ¬ (fr n m).num < 0:=fun g=>h (hs.1 g);congr 3;omega
end Go.Sh
namespace Go.Sh
open Go Go.Am
theorem qc9 {a b : Kx} (c : -100000≤a.num_∧a.num_≤100000) (f : -100000≤a.den_∧a.den_≤100000) (d : -100000≤b.num_∧b.num_≤100000) (g : -100000≤b.den_∧b.den_≤100000) : q3x a b = some (befC (a.num_,a.den_) (b.num_,b.den_)):=by
  unfold q3x befC;rw [qqu c g Q3,qqu d f Q3]
def axOk (a : Int × Int × Int × Int) : Prop:=(-30≤a.1∧a.1≤30)∧(-30≤a.2.1∧a.2.1≤30)∧(-1100≤a.2.2.1∧a.2.2.1≤1100)∧(-8≤a.2.2.2∧a.2.2.2≤8)
def smP (a : Int × Int) : Prop:=(-1200≤a.1∧a.1≤1200)∧(-16≤a.2∧a.2≤16)
theorem qnd {a : Int × Int × Int × Int} (h : axOk a) : (-1200≤(nfC a).1∧(nfC a).1≤1200)∧(-1200≤(nfC a).2.1∧(nfC a).2.1≤1200)∧-8≤(nfC a).2.2∧(nfC a).2.2≤8:=by
  unfold axOk at h;unfold nfC;split <;> (simp only;omega)
theorem qwn {f : Int × Int} {t : Option (Int × Int)} (a : smP f) (b : ∀ u,t = some u→smP u) : smP (minC f t):=by
  cases t with
  | none=>exact a
  | some u=>
    show smP (if befC f u = true then f else u);split
    · exact a
    · exact b u rfl
theorem q15s {a : Int × Int × Int × Int} {f : Int × Int} {t : Option (Int × Int)} (l : axOk a) (b : smP f) (g : ∀ u,t = some u→smP u) {d : Int × Int} {c : Option (Int × Int)} (h : Kt (some (f,t)) a = some (d,c)) : smP d∧∀ u,c = some u→smP u:=by
  have j:=qnd l;have n : smP ((nfC a).1,2 * (nfC a).2.2):=⟨j.1,by show -16≤2 * (nfC a).2.2∧2 * (nfC a).2.2≤16;omega⟩
  have k : smP ((nfC a).2.1,2 * (nfC a).2.2):=⟨j.2.1,by show -16≤2 * (nfC a).2.2∧2 * (nfC a).2.2≤16;omega⟩
  simp only [Kt] at h;split at h
  · split at h
    · cases h
    · cases h;exact ⟨b,g⟩
  · cases h;refine ⟨?_,fun u m=>?_⟩
    · split
      · exact n
      · exact b
    · cases m;exact qwn k g
def outC (i : Int) (tn td : Int) : Option ((Int × Int) × Option (Int × Int))→(Bool × Int × Int × Int × Int × Int) ⊕ ((Int × Int × Int × Int) ⊕ (Kx × Bool))
  | none=>.inr (.inr (({num_:=0,den_:=0} : Kx),false))
  | some (f,none)=>.inl (true,i + 1,f.1,f.2,tn,td)
  | some (f,some t)=>.inl (false,i + 1,f.1,f.2,t.1,t.2)
theorem qga {k g h l : Int × Int × Int} {i : Int} {a : Int × Int × Int × Int} (h7 : idxA 3 [k.1,k.2.1,k.2.2] i = some a.2.2.2) (v : idxA 3 [g.1,g.2.1,g.2.2] i = some a.1) (h1 : idxA 3 [h.1,h.2.1,h.2.2] i = some a.2.2.1) (h5 : idxA 3 [l.1,l.2.1,l.2.2] i = some a.2.1)
    (hi : 0≤i∧i < 3) (r : axOk a) {f t : Int × Int} {o : Bool} (s : smP f) (y : smP t) :
    q1j k g h l (o,i,f.1,f.2,t.1,t.2) = some (outC i t.1 t.2 (Kt (some (f,if o = true then none else some t)) a)):=by
  obtain ⟨lo,b,p,d⟩:=a;obtain ⟨fn,fd⟩:=f;obtain ⟨tn,u⟩:=t;have m:=qnd r;unfold axOk at r;unfold smP at s y;simp only at r s y h7 v h1 h5 m;unfold q1j;rw [Qb (show i < 3 from hi.2)];simp only [qz,h7,v,h1,h5,qj];rw [qv (x:=2 * lo) q0,qv (x:=2 * lo - p) q0,qv (x:=2 * b) q0,qv (x:=2 * b - p) q0,qv (x:=i + 1) q0];by_cases j : d = 0
  · rw [show (d == 0) = true by simpa using j];simp only [qz,Kt,j,if_true];by_cases hb : 2 * lo - p ≥ 0
    · rw [Qb hb];simp only [qz,qj];rw [qq (.inl hb)];rfl
    · rw [Q8 hb];simp only [qy,qj];by_cases c : 2 * b - p≤0
      · rw [Qb c,qq (.inr c)];rfl
      · rw [Q8 c,qs q0];cases o <;> rfl
  · rw [show (d == 0) = false by simpa using j];simp only [qy]
    have hs : ((cond (decide (d < 0)) (some (w64 (0 - d),w64 (0 - (2 * b - p)),w64 (0 - (2 * lo - p)))) (some (d,2 * lo - p,2 * b - p))) : Option (Int × Int × Int)) = some ((nfC (lo,b,p,d)).2.2,(nfC (lo,b,p,d)).1,(nfC (lo,b,p,d)).2.1):=by
      unfold nfC;by_cases hd : d < 0
      · rw [Qb hd,qq hd,qz,qv q0,qv q0,qv q0];simp only [Option.some.injEq,Prod.mk.injEq];omega
      · rw [Q8 hd,qs hd,qy]
    rw [hs];simp only [Kt,qs j];generalize nfC (lo,b,p,d) = q at m;obtain ⟨n,z,e⟩:=q;simp only at m;simp only [qj];rw [qv (x:=2 * e) q0,qc9 (by simp only;omega) (by simp only;omega) (by simp only;omega) (by simp only;omega)];simp only [qj];have c : ((cond (befC (fn,fd) (n,2 * e)) (some (n,2 * e)) (some (fn,fd))) : Option (Int × Int)) = some (if befC (fn,fd) (n,2 * e) = true then (n,2 * e) else (fn,fd)):=by cases befC (fn,fd) (n,2 * e) <;> rfl
    rw [c];simp only [qj]
    cases o with
    | true=>rfl
    | false=>
      simp only [qy];rw [qc9 (by simp only;omega) (by simp only;omega) (by simp only;omega) (by simp only;omega)];simp only [qj,Bool.false_eq_true,if_false,minC];by_cases hq : befC (z,2 * e) (tn,u) = true
      · rw [hq];rfl
      · rw [show befC (z,2 * e) (tn,u) = false by simpa using hq];rfl
def Ya (b : qf) : Prop:=((-30≤b.Lo.X∧b.Lo.X≤30)∧(-30≤b.Lo.Y∧b.Lo.Y≤30)∧(-30≤b.Lo.Z∧b.Lo.Z≤30))∧((-30≤b.Hi.X∧b.Hi.X≤30)∧(-30≤b.Hi.Y∧b.Hi.Y≤30)∧(-30≤b.Hi.Z∧b.Hi.Z≤30))
def Uk (p d : qh) : Prop:=((-1100≤p.X∧p.X≤1100)∧(-1100≤p.Y∧p.Y≤1100)∧(-1100≤p.Z∧p.Z≤1100))∧((-8≤d.X∧d.X≤8)∧(-8≤d.Y∧d.Y≤8)∧(-8≤d.Z∧d.Z≤8))
theorem qg9 {b : qf} {p d : qh} (hb : Ya b) (hr : Uk p d) (aj : nzV d) : ∃ t,q8q ({p_:=p,d_:=d} : Yw) b = some (t,(hitC (axB b p d)).isSome)∧∀ u,hitC (axB b p d) = some u→t = {num_:=u.1,den_:=u.2}∧smP u:=by
  obtain ⟨⟨b1,b2,b3⟩,b4,b5,b6⟩:=hb;obtain ⟨⟨r1,r2,r3⟩,r4,r5,r6⟩:=hr;have a1 : axOk (b.Lo.X,b.Hi.X,p.X,d.X):=⟨b1,b4,r1,r4⟩
  have a2 : axOk (b.Lo.Y,b.Hi.Y,p.Y,d.Y):=⟨b2,b5,r2,r5⟩
  have a3 : axOk (b.Lo.Z,b.Hi.Z,p.Z,d.Z):=⟨b3,b6,r3,r6⟩
  unfold q8q q1i;simp only [qj];have z : smP (0,0):=⟨Q3,Q3⟩
  have z1 : smP (0,1):=⟨Q3,Q3⟩
  have fin : ∀ (o : Bool) (f t : Int × Int),smP f→smP t→q1j (d.X,d.Y,d.Z) (b.Lo.X,b.Lo.Y,b.Lo.Z) (p.X,p.Y,p.Z) (b.Hi.X,b.Hi.Y,b.Hi.Z) (o,3,f.1,f.2,t.1,t.2) = some (.inr (.inl (f.1,f.2,t.1,t.2))):=fun o f t _ _=>rfl
  have st : ∀ (i : Int) (a : Int × Int × Int × Int),(i = 0∧a = (b.Lo.X,b.Hi.X,p.X,d.X))∨(i = 1∧a = (b.Lo.Y,b.Hi.Y,p.Y,d.Y))∨(i = 2∧a = (b.Lo.Z,b.Hi.Z,p.Z,d.Z))→∀ (o : Bool) (f t : Int × Int),smP f→smP t→
      (Kt (some (f,if o = true then none else some t)) a = none∧loop (q1j (d.X,d.Y,d.Z) (b.Lo.X,b.Lo.Y,b.Lo.Z) (p.X,p.Y,p.Z) (b.Hi.X,b.Hi.Y,b.Hi.Z)) (o,i,f.1,f.2,t.1,t.2) = some (.inr (({num_:=0,den_:=0} : Kx),false)))∨
      ∃ (o' : Bool) (g c : Int × Int),Kt (some (f,if o = true then none else some t)) a = some (g,if o' = true then none else some c)∧smP g∧smP c∧loop (q1j (d.X,d.Y,d.Z) (b.Lo.X,b.Lo.Y,b.Lo.Z) (p.X,p.Y,p.Z) (b.Hi.X,b.Hi.Y,b.Hi.Z)) (o,i,f.1,f.2,t.1,t.2) =
        loop (q1j (d.X,d.Y,d.Z) (b.Lo.X,b.Lo.Y,b.Lo.Z) (p.X,p.Y,p.Z) (b.Hi.X,b.Hi.Y,b.Hi.Z)) (o',i + 1,g.1,g.2,c.1,c.2):=by
    intro i a s o f t l r
    have j : q1j (d.X,d.Y,d.Z) (b.Lo.X,b.Lo.Y,b.Lo.Z) (p.X,p.Y,p.Z) (b.Hi.X,b.Hi.Y,b.Hi.Z) (o,i,f.1,f.2,t.1,t.2) = some (outC i t.1 t.2 (Kt (some (f,if o = true then none else some t)) a)):=by
      rcases s with ⟨rfl,rfl⟩ | ⟨rfl,rfl⟩ | ⟨rfl,rfl⟩
      · exact qga rfl rfl rfl rfl Q3 a1 l r
      · exact qga rfl rfl rfl rfl Q3 a2 l r
      · exact qga rfl rfl rfl rfl Q3 a3 l r
    have af : axOk a:=by rcases s with ⟨_,rfl⟩ | ⟨_,rfl⟩ | ⟨_,rfl⟩ <;> assumption
    have ad : ∀ u,(if o = true then none else some t) = some u→smP u:=by
      intro u n;by_cases ho : o = true
      · rw [qq ho] at n;cases n
      · rw [qs ho] at n;cases n;exact r
    have ac : ∀ g c,Kt (some (f,if o = true then none else some t)) a = some (g,c)→smP g∧∀ u,c = some u→smP u:=fun g c h=>q15s af l ad h
    cases hs : Kt (some (f,if o = true then none else some t)) a with
    | none=>rw [hs] at j;exact .inl ⟨rfl,Kd j⟩
    | some q=>
      obtain ⟨g,c⟩:=q;rw [hs] at j;have h2:=ac g c hs
      cases c with
      | none=>exact .inr ⟨true,g,t,rfl,h2.1,r,Kp j⟩
      | some c=>exact .inr ⟨false,g,c,rfl,h2.1,h2.2 c rfl,Kp j⟩
  have hC : hitC (axB b p d) = match Kt (Kt (Kt (some ((0,1),none)) (b.Lo.X,b.Hi.X,p.X,d.X)) (b.Lo.Y,b.Hi.Y,p.Y,d.Y)) (b.Lo.Z,b.Hi.Z,p.Z,d.Z) with
      | some (f,some t)=>if befC f t = true then some f else none
      | _=>none:=rfl
  rw [hC];have nn : ∀ a,Kt none a = none:=fun a=>rfl;rcases st 0 _ (.inl ⟨rfl,rfl⟩) true (0,1) (0,0) z1 z with ⟨v,l1⟩ | ⟨o1,f1,t1,v,s1,u1,l1⟩
  · rw [l1,show Kt (some ((0,1),none)) (b.Lo.X,b.Hi.X,p.X,d.X) = none from v,nn,nn];exact ⟨_,rfl,qe⟩
  rw [l1,show Kt (some ((0,1),none)) (b.Lo.X,b.Hi.X,p.X,d.X) = _ from v];rcases st 1 _ (.inr (.inl ⟨rfl,rfl⟩)) o1 f1 t1 s1 u1 with ⟨y,l2⟩ | ⟨o2,f2,t2,y,s2,u2,l2⟩
  · rw [show (0 : Int) + 1 = 1 from rfl,l2,y,nn];exact ⟨_,rfl,qe⟩
  rw [show (0 : Int) + 1 = 1 from rfl,l2,y];rcases st 2 _ (.inr (.inr ⟨rfl,rfl⟩)) o2 f2 t2 s2 u2 with ⟨e3,l3⟩ | ⟨o3,k,m,e3,s3,u3,l3⟩
  · rw [show (1 : Int) + 1 = 2 from rfl,l3,e3];exact ⟨_,rfl,qe⟩
  rw [show (1 : Int) + 1 = 2 from rfl,l3,e3,show (2 : Int) + 1 = 3 from rfl,Kd (fin o3 k m s3 u3)];simp only [qj];obtain ⟨⟨c1,c2⟩,c3⟩:=s3;obtain ⟨⟨c4,c5⟩,c6⟩:=u3;rw [qc9 (by simp only;omega) (by simp only;omega) (by simp only;omega) (by simp only;omega)];simp only [qj];have ai : ∀ (x : Option ((Int × Int) × Option (Int × Int))) (t : Int × Int),x = some (k,some t)→(match x with | some (f,some t)=>if befC f t = true then some f else none | _=>none) = if befC k t = true then some k else none:=fun x t h=>by rw [h]
  cases o3 with
  | true=>
    exfalso;obtain ⟨h,hh⟩:=qct (qd4 (b:=b) (p:=p) aj);have hv : (0 : Rat)≤valC (0,1):=by unfold valC fr;grind
    have l : (axB b p d).foldl Kt (some ((0,1),none)) = some (k,none):=by
      show Kt (Kt (Kt (some ((0,1),none)) (b.Lo.X,b.Hi.X,p.X,d.X)) (b.Lo.Y,b.Hi.Y,p.Y,d.Y)) (b.Lo.Z,b.Hi.Z,p.Z,d.Z) = _;rw [show Kt (some ((0,1),none)) (b.Lo.X,b.Hi.X,p.X,d.X) = _ from v,y,e3];rfl
    rcases qco (axB b p d) (0,1) none Q3 qe hv with ⟨q,_⟩ | ⟨g,c,q1,_,_,_,_,q2⟩
    · rw [l] at q;cases q
    · rw [l] at q1;cases q1;rw [hh] at q2;cases q2
  | false=>
    rw [ai _ m qe];by_cases hq : befC k m = true
    · rw [qq hq];refine ⟨_,by rw [show befC (k.1,k.2) (m.1,m.2) = true from hq];rfl,fun u n=>?_⟩;cases n;exact ⟨rfl,⟨⟨c1,c2⟩,c3⟩⟩
    · rw [qs hq];refine ⟨_,by rw [show befC (k.1,k.2) (m.1,m.2) = false by simpa using hq];rfl,by simp⟩
end Go.Sh
namespace Go.Sh
open Go Go.Am
theorem qlg {m : Int} {q : Rat} {a : Int} : (a : Rat) < (m : Rat) * q↔a * (q.den : Int) < m * q.num:=by
  have hd : (0 : Rat) < ((q.den : Int) : Rat):=by exact_mod_cast qci q
  have e : q * ((q.den : Int) : Rat) = (q.num : Rat):=by
    have:=qun (n:=q.num) (qci q);rw [qlh] at this;exact this
  rw [← q4f,Rat.intCast_mul,Rat.intCast_mul,← e];constructor
  · intro h;have : (a : Rat) * ((q.den : Int) : Rat) < (m : Rat) * q * ((q.den : Int) : Rat):=Rat.mul_lt_mul_of_pos_right h hd;grind
  · intro h;refine Rat.not_le.1 fun g=>?_;have : (m : Rat) * q * ((q.den : Int) : Rat)≤(a : Rat) * ((q.den : Int) : Rat):=Rat.mul_le_mul_of_nonneg_right g (Rat.le_of_lt hd);grind
theorem qum {m : Int} {q : Rat} {a : Int} : (m : Rat) * q < (a : Rat)↔m * q.num < a * (q.den : Int):=by
  have h:=qlg (m:=-m) (q:=q) (a:=-a);rw [Rat.intCast_neg,Rat.intCast_neg,Int.neg_mul,Int.neg_mul] at h;constructor
  · intro g;have:=h.1 (by grind);omega
  · intro g;have:=h.2 q0;grind
theorem qvm {lo hi p d : Int} {q : Rat} : inAx lo hi p d q↔2 * lo * (q.den : Int) < p * (q.den : Int) + 2 * d * q.num∧p * (q.den : Int) + 2 * d * q.num < 2 * hi * (q.den : Int):=by
  unfold inAx;have e : 2 * (d : Rat) * q = ((2 * d : Int) : Rat) * q:=by rw [Rat.intCast_mul];rfl
  rw [e,qlg,qum,Int.sub_mul,Int.sub_mul];omega
instance {lo hi p d : Int} {q : Rat} : Decidable (inAx lo hi p d q):=decidable_of_iff _ qvm.symm
instance {b : qf} {p d : qh} {t : Rat} : Decidable (q16 (axB b p d) t):=decidable_of_iff _ qcy.symm
end Go.Sh
namespace Go.Sh
open Go Go.Am
structure TL (P : List Rat) (C : List Rat) : Prop where
  so : ((0 : Rat)::P).Pairwise (·≤·)
  mem : ∀ x,x∈P↔x∈C∧0 < x
  sm : ∀ x∈P,smR x∧((-1200≤x.num∧x.num≤1200)∧(x.den : Int)≤16)
  len : P.length≤C.length
end Go.Sh
namespace Go.Sh
open Go Go.Am
theorem qgl {α β : Type} {f : α→Option (α ⊕ β)} (st : Nat→α) (n : Nat) (ok : Nat→Prop) (b e : β)
    (step : ∀ k,k < n→(∀ j,j≤k→ok j)→f (st k) = some (.inl (st (k + 1))))
    (bad : ∀ k,k < n→(∀ j,j < k→ok j)→¬ ok k→f (st k) = some (.inr e))
    (done : (∀ j,j < n→ok j)→f (st n) = some (.inr b)) :
    ((∀ j,j < n→ok j)∧loop f (st 0) = some b)∨(∃ j,j < n∧¬ ok j∧loop f (st 0) = some e):=by
  by_cases h : ∀ j,j < n→ok j
  · exact .inl ⟨h,Zf st n b (fun k c=>step k c fun j d=>h j q0) (done h) (Nat.zero_le _)⟩
  · refine .inr ?_
    have g : ∃ k,(k < n∧¬ ok k)∧∀ j,j < k→ok j:=by
      have : ∃ k,k < n∧¬ ok k:=by
        refine Classical.byContradiction fun o=>h fun k c=>?_;exact Classical.byContradiction fun h=>o ⟨k,c,h⟩
      obtain ⟨k,c⟩:=this
      induction k using Nat.strongRecOn with
      | _ k ih=>
        by_cases d : ∃ j,j < k∧(j < n∧¬ ok j)
        · obtain ⟨j,l,g⟩:=d;exact ih j l g
        · exact ⟨k,c,fun j l=>Classical.byContradiction fun h=>d ⟨j,l,q0,h⟩⟩
    obtain ⟨K,⟨m,hb⟩,a⟩:=g;exact ⟨K,m,hb,Zf st K e (fun k c=>step k q0 fun j d=>a j q0) (bad K m a hb) (Nat.zero_le _)⟩
theorem q15d (xs : List Int) (h : xs.length≤1000000) :
    ((q1e xs).bind fun c=>(K1 c.length xs.length).bind fun _=>(q3i c).bind fun b=>(K1 b.2.length c.length).bind fun _=>(q3y b.2.length b.1).bind fun _=>some ((b.2.drop b.1.1).take b.1.2)) = some (Qy xs):=by
  obtain ⟨ys,k,g,m⟩:=qpp xs h;have f : ys.length = xs.length:=g.length_eq;obtain ⟨w,a,c1,c2,c3,c4⟩:=qk6 m q0;obtain ⟨_,j,_⟩:=Ut h
  have d : a.take w = Qy xs:=by
    refine qpq (l:=xs) ⟨c4.1,fun x=>?_⟩ j;rw [c4.2 x];exact g.mem_iff
  simp only [qj,k,K1,f,if_true,c1,c2,q3y];rw [qq q0];simp only [qj,List.drop_zero,d]
theorem qzy (l : List ql) (d : l.length≤1000000) : qab l (fun x0=>q3b x0) = some (decide (¬ ∀ r∈l,vR r)):=by
  have hs : ∀ (k : Nat) (h : k < l.length),q53 l (fun x0=>q3b x0) (k : Int) = some (if (fun r=>!decide (vR r)) l[k] = true then .inr (.inr (k : Int)) else .inl ((k + 1 : Nat) : Int)):=by
    intro k h;simp only [q53,dlt h,qz,Qw h,qj,w64s h d,q3b,q16t];by_cases c : vR l[k] <;> simp [c]
  have hd : q53 l (fun x0=>q3b x0) (l.length : Int) = some (.inr (.inl ())):=by simp only [q53,dnl,qy]
  unfold qab qe4;rcases Uu l (fun r=>!decide (vR r)) (fun k _=>(k : Int)) () _ hs hd with ⟨g,a⟩ | ⟨k,b,j,_,a⟩
  · rw [a];have : ∀ r∈l,vR r:=fun r f=>by simpa using g r f
    simp [];omega
  · rw [a];have : ¬ ∀ r∈l,vR r:=fun h=>by simp [h _ (Y7 b)] at j
    simp only [qj];rw [Qb this,Qb q0]
theorem qzv (l : List ql) : q77 l = some (mkR l):=by
  unfold q77 mkR;by_cases b : 400 < l.length
  · rw [Qb (by omega : (l.length : Int) > 400),qz,qq b]
  rw [Q8 (by omega : ¬ (l.length : Int) > 400),qy,qs b,qzy l q0,qj];by_cases a : ∀ r∈l,vR r
  · rw [Q8 (fun h=>h a),qy,qwj l q0 a,qq a];rfl
  · rw [Qb a,qz,qs a]
end Go.Sh
namespace Go.Sh
open Go Go.Am
theorem q15b (v : qh) : q8e v = some (decide ((-1000000≤v.X∧-1000000≤v.Y∧-1000000≤v.Z)∧v.X≤1000000∧v.Y≤1000000∧v.Z≤1000000)):=by
  unfold q8e;by_cases a : min (min v.X v.Y) v.Z ≥ -1000000
  · by_cases b : max (max v.X v.Y) v.Z≤1000000
    · rw [Qb a,Qb b,qz,qj];congr 1;exact (Qb q0).symm
    · rw [Qb a,Q8 b,qz,qj];congr 1;exact (Q8 q0).symm
  · rw [Q8 a,qy,qj];congr 1;exact (Q8 q0).symm
theorem qpl (b : qf) : q8f b = some (decide (vB b)):=by
  unfold q8f vB;simp only [q15b,qj];by_cases a : b.Lo.X < b.Hi.X
  · by_cases c : b.Lo.Y < b.Hi.Y
    · by_cases d : b.Lo.Z < b.Hi.Z
      · simp only [a,c,d,decide_true,qz,qj,true_and];by_cases f : (-1000000≤b.Lo.X∧-1000000≤b.Lo.Y∧-1000000≤b.Lo.Z)∧b.Lo.X≤1000000∧b.Lo.Y≤1000000∧b.Lo.Z≤1000000
        · rw [Qb f];simp only [qz,qj];congr 1;exact decide_eq_decide.2 q0
        · rw [Q8 f];simp only [qy,qj];congr 1;exact (Q8 q0).symm
      · simp [a,c,d]
    · simp [a,c]
  · simp [a]
theorem qz6 (v : qh) (n : Int) : q6w v n = some (decide ((n≤v.X∧n≤v.Y∧n≤v.Z)∧v.X≤1000000∧v.Y≤1000000∧v.Z≤1000000)):=by
  unfold q6w
  by_cases d : v.X ≥ n <;> by_cases b : v.Y ≥ n <;> by_cases g : v.Z ≥ n <;> by_cases c : v.X≤1000000 <;> by_cases f : v.Y≤1000000 <;> by_cases a : v.Z≤1000000 <;>
    simp [d,b,g,c,f,a] <;> omega
theorem qzg (b : qf) : q9w b = some (decide (vB b)):=by
  unfold q9w vB;simp only [qz6,qj];by_cases a : (-1000000≤b.Lo.X∧-1000000≤b.Lo.Y∧-1000000≤b.Lo.Z)∧b.Lo.X≤1000000∧b.Lo.Y≤1000000∧b.Lo.Z≤1000000
  · rw [Qb a];simp only [qz,qj];by_cases c : (-1000000≤b.Hi.X∧-1000000≤b.Hi.Y∧-1000000≤b.Hi.Z)∧b.Hi.X≤1000000∧b.Hi.Y≤1000000∧b.Hi.Z≤1000000
    · rw [Qb c];by_cases f : b.Lo.X < b.Hi.X <;> by_cases d : b.Lo.Y < b.Hi.Y <;> by_cases g : b.Lo.Z < b.Hi.Z <;> simp [f,d,g] <;> omega
    · rw [Q8 c];simp only [qy,qj];congr 1;exact (Q8 q0).symm
  · rw [Q8 a];simp only [qy,qj];congr 1;exact (Q8 q0).symm
theorem q15a (l : List qf) (d : l.length≤1000000) : qaa l (fun x0=>q3o x0) = some (decide (¬ ∀ r∈l,vB r)):=by
  have hs : ∀ (k : Nat) (h : k < l.length),q52 l (fun x0=>q3o x0) (k : Int) = some (if (fun r=>!decide (vB r)) l[k] = true then .inr (.inr (k : Int)) else .inl ((k + 1 : Nat) : Int)):=by
    intro k h;simp only [q52,dlt h,qz,Qw h,qj,w64s h d,q3o,qpl];by_cases c : vB l[k] <;> simp [c]
  have hd : q52 l (fun x0=>q3o x0) (l.length : Int) = some (.inr (.inl ())):=by simp only [q52,dnl,qy]
  unfold qaa qe3;rcases Uu l (fun r=>!decide (vB r)) (fun k _=>(k : Int)) () _ hs hd with ⟨g,a⟩ | ⟨k,b,j,_,a⟩
  · rw [a];have : ∀ r∈l,vB r:=fun r f=>by simpa using g r f
    simp [];omega
  · rw [a];have : ¬ ∀ r∈l,vB r:=fun h=>by simp [h _ (Y7 b)] at j
    simp only [qj];rw [Qb this,Qb q0]
theorem q159 (l : List qf) (d : l.length≤1000000) : Um l (fun x0=>q3n x0) = some (decide (¬ ∀ r∈l,vB r)):=by
  have hs : ∀ (k : Nat) (h : k < l.length),Js l (fun x0=>q3n x0) (k : Int) = some (if (fun r=>!decide (vB r)) l[k] = true then .inr (.inr (k : Int)) else .inl ((k + 1 : Nat) : Int)):=by
    intro k h;simp only [Js,dlt h,qz,Qw h,qj,w64s h d,q3n,qpl];by_cases c : vB l[k] <;> simp [c]
  have hd : Js l (fun x0=>q3n x0) (l.length : Int) = some (.inr (.inl ())):=by simp only [Js,dnl,qy]
  unfold Um q7f;rcases Uu l (fun r=>!decide (vB r)) (fun k _=>(k : Int)) () _ hs hd with ⟨g,a⟩ | ⟨k,b,j,_,a⟩
  · rw [a];have : ∀ r∈l,vB r:=fun r f=>by simpa using g r f
    simp [];omega
  · rw [a];have : ¬ ∀ r∈l,vB r:=fun h=>by simp [h _ (Y7 b)] at j
    simp only [qj];rw [Qb this,Qb q0]
theorem q155 (s : Mg ql qf) (a b : Int) (c : List ql) (hl : (s.flat putB).length + c.length≤1000000) :
    qba (s.flat putB) s.sec (s.done.length : Int) s.hi a b c = some ((addM putB s a b c).sec,((addM putB s a b c).done.length : Int),(addM putB s a b c).hi,(addM putB s a b c).flat putB):=by
  have x : (s.flat putB).length = s.done.length + s.sec.length:=by simp [Mg.flat]
  have d : s.sec.length≤1000000:=by omega
  unfold qba;rcases Ud putB s a b c with ⟨p,r,y,m⟩ | ⟨p,m⟩
  · have hb : decide ((c.length : Int) > 0) = true:=Qb (by have:=List.length_pos_iff.2 p;omega);have z : (s.hi == a) = true:=by simpa using y
    rw [r] at hb;rw [m,r];simp only [hb,qz,z,qj,qko _ _ d,decide_true]
    have:=q65 (fun v : qf=>({Lo:=v.Lo,Hi:=({X:=v.Hi.X,Y:=v.Hi.Y,Z:=b} : qh)} : qf)) s.done (s.sec.map (putB s.lo s.hi)) (by simp;omega) (q8c b) (fun k o f u=>by
      have l : (s.done ++ s.sec.map (putB s.lo s.hi)).length = (s.flat putB).length:=rfl
      simp only [q8c,dlt f,qz,Qw f,qj,w64s f q0,Int.toNat_natCast]) (fun o=>by simp only [q8c,dnl,qy])
    rw [show s.flat putB = s.done ++ s.sec.map (putB s.lo s.hi) from rfl,this];simp only [qj,Mg.flat,List.map_map];rfl
  · rw [m]
    have hc : ((cond (decide ((c.length : Int) > 0)) (some (s.hi == a)) (some false)).bind fun g=>(cond g ((qad s.sec c).bind fun j=>some j) (some false))) = some false:=by
      by_cases l : c = []
      · subst l;simp
      · have hb : decide ((c.length : Int) > 0) = true:=Qb (by have:=List.length_pos_iff.2 l;omega);simp only [hb,qz,qj,qko _ _ d];by_cases q : s.hi = a
        · have t : s.sec≠c:=fun h=>p ⟨l,h.symm,q⟩;simp [q,t]
        · have : (s.hi == a) = false:=by simpa using q
          simp [this]
    have n:=q6k c (putB a b) (s.flat putB) (fun o=>(c,((s.flat putB).length : Int),b,o)) (q8d c a b (s.flat putB)) (fun k f o u=>by
      simp only [q8d,dlt f,qz,Qw f,qj,w64s f q0];rw [Y8 (by simp;omega)]
      rfl) (fun o=>by simp only [q8d,dnl,qy])
    rw [← Option.bind_assoc,hc];simp only [qj,qy,n];simp [Mg.flat]
theorem q17b (l : List qf) (o : List Int) (g : l.length≤400) (d : o.length≤10000) : loop (q5i l) (0,o) = some (o ++ zsOf l):=
  Uc l q0 (fun r=>[r.Lo.Z,r.Hi.Z]) o (fun o=>o) (q5i l) (fun k a c b=>by
    have f : c.length = o.length + 2 * k:=by
      rw [b,List.length_append];have:=Jv (l.take k);rw [List.length_take,Nat.min_eq_left q0] at this;unfold zsOf at this;omega
    simp only [q5i,dlt a,qz,Qw a,qj,w64s a q0]
    rw [Y8 (by simp;omega)]
    rfl) (fun o=>by simp only [q5i,dnl,qy])
theorem qjf (l : List qf) (g : l.length≤400) (x : Int) : loop (q5k l x) (0,[]) = some (atB l x):=by
  have:=Uc l q0 (fun r=>if covB x r = true then [Jq r] else []) [] (fun o=>o) (q5k l x) (fun k a o d=>by
    have f : o.length≤k:=by rw [d,List.nil_append];have:=Ur (l.take k) x;rw [List.length_take,Nat.min_eq_left q0] at this;exact this
    simp only [q5k,dlt a,qz,Qw a,qj,w64s a q0];by_cases b : l[k].Lo.Z≤x
    · by_cases c : x < l[k].Hi.Z
      · simp only [b,c,decide_true,qz,qj,covB,Bool.and_self,if_true];rw [Y8 (by simp;omega)];rfl
      · simp only [b,c,decide_true,decide_false,qz,qy,qj,covB,Bool.and_false,if_false,Bool.false_eq_true,List.append_nil]
    · simp only [b,decide_false,qy,qj,covB,Bool.false_and,if_false,Bool.false_eq_true,List.append_nil]) (fun o=>by simp only [q5k,dnl,qy])
  rw [List.nil_append] at this;exact this
theorem q11x {kind : Int} {p q : List qf} {xs : List Int} (ac : Qy (zsOf p ++ zsOf q) = xs) (h : p.length + q.length≤800) (F : Int × List ql × Int × Int × List qf→Option ((Int × List ql × Int × Int × List qf) ⊕ ((List ql × Int × Int × List qf) ⊕ (List qf × Int))))
    (ag : ∀ (a b : Int) (k : Nat) (s : Mg ql qf),(s.flat putB).length + 400≤1000000→(h1 : k + 1 < xs.length)→a = xs[k]'(q0)→b = xs[k + 1]'h1→(secB kind p q a).length≤400→
      F (((k + 1 : Nat) : Int),s.sec,(s.done.length : Int),s.hi,s.flat putB) = some (.inl (((k + 1 + 1 : Nat) : Int),(addM putB s a b (secB kind p q a)).sec,((addM putB s a b (secB kind p q a)).done.length : Int),(addM putB s a b (secB kind p q a)).hi,(addM putB s a b (secB kind p q a)).flat putB)))
    (z : ∀ (a : Int) (k : Nat) (s : Mg ql qf),(h1 : k + 1 < xs.length)→a = xs[k]'(q0)→400 < (secB kind p q a).length→
      F (((k + 1 : Nat) : Int),s.sec,(s.done.length : Int),s.hi,s.flat putB) = some (.inr (.inr ([],4))))
    (y : ∀ (k : Nat) (s : Mg ql qf),xs.length≤k + 1→F (((k + 1 : Nat) : Int),s.sec,(s.done.length : Int),s.hi,s.flat putB) = some (.inr (.inl (s.sec,(s.done.length : Int),s.hi,s.flat putB)))) :
    (∃ a b c,loop F (1,[],0,0,[]) = some (.inl (a,b,c,mrgB kind p q)))∨(400 < (mrgB kind p q).length∧loop F (1,[],0,0,[]) = some (.inr ([],4))):=by
  have ap:=Jv p;have aj:=Jv q;obtain ⟨_,ab,d⟩:=Ut (l:=zsOf p ++ zsOf q) (by simp;omega);have d : (Qy (zsOf p ++ zsOf q)).length≤1600:=by simp at d;omega
  have m : ∀ x,(secB kind p q x).length≤(mrgB kind p q).length:=fun x=>qox kind q0 x;have ah : mrgB kind p q = (K4 putB K2 (Yy (Qy (zsOf p ++ zsOf q)) (secB kind p q))).flat putB:=rfl;rw [ah] at m ⊢;rw [ac] at ab d m ⊢;generalize aa : Yy xs (secB kind p q) = steps at m ⊢;have am : steps.length = xs.length - 1:=by rw [← aa];exact qbj _ _
  have u : ∀ k (g : k < steps.length),steps[k] = (xs[k]'(q0),xs[k + 1]'(q0),secB kind p q (xs[k]'(q0))):=fun k g=>by subst aa;exact qbi g q0
  have af : ∀ k,k≤steps.length→(∀ j,j < k→∀ t,steps[j]? = some t→t.2.2.length≤400)→((K4 putB K2 (steps.take k)).flat putB).length≤1600 * 400:=fun k g n=>by
    have h1:=qfw putB (s0:=K2) (M:=400) (steps:=steps.take k) (fun t o=>by
      obtain ⟨i,hi,rfl⟩:=List.getElem_of_mem o;rw [List.length_take] at hi;rw [List.getElem_take]
      exact n i q0 _ (List.getElem?_eq_getElem q0))
    have v : (steps.take k).length≤1600:=by rw [List.length_take];omega
    have h3 : (K2.flat putB : List qf).length = 0:=rfl;have h4 : (steps.take k).length * 400≤1600 * 400:=Nat.mul_le_mul_right _ v;omega
  have main:=qgl (f:=F) (fun k=>(((k + 1 : Nat) : Int),(K4 putB K2 (steps.take k)).sec,((K4 putB K2 (steps.take k)).done.length : Int),(K4 putB K2 (steps.take k)).hi,(K4 putB K2 (steps.take k)).flat putB))
    steps.length (fun j=>∀ t,steps[j]? = some t→t.2.2.length≤400) (.inl ((K4 putB K2 steps).sec,((K4 putB K2 steps).done.length : Int),(K4 putB K2 steps).hi,(K4 putB K2 steps).flat putB)) (.inr ([],4))
    (fun k g n=>by
      have r : k + 1 < xs.length:=by omega
      have hc:=n k (Nat.le_refl _) _ (List.getElem?_eq_getElem g);have hm:=af k q0 fun j al=>n j q0;rw [q68 putB g,u k g] at *;simp only at hc
      exact ag _ _ k (K4 putB K2 (steps.take k)) q0 r rfl rfl hc)
    (fun k g n hb=>by
      have r : k + 1 < xs.length:=by omega
      have an : k < xs.length:=by omega
      refine z _ k (K4 putB K2 (steps.take k)) r rfl ?_;refine Nat.lt_of_not_le fun h=>hb fun t o=>?_;rw [List.getElem?_eq_getElem g,u k g] at o
      cases o;exact h)
    (fun _=>by
      rw [List.take_length]
      exact y steps.length _ q0)
  have ae : ((((0 + 1 : Nat) : Int),(K4 putB K2 (steps.take 0)).sec,((K4 putB K2 (steps.take 0)).done.length : Int),(K4 putB K2 (steps.take 0)).hi,(K4 putB K2 (steps.take 0)).flat putB) : Int × List ql × Int × Int × List qf) = (1,[],0,0,[]):=rfl;rw [ae] at main;rcases main with ⟨_,v⟩ | ⟨j,n,hb,v⟩
  · exact .inl ⟨_,_,_,v⟩
  · refine .inr ⟨?_,v⟩;have ak : j < xs.length:=by omega
    have h5 : 400 < (secB kind p q xs[j]).length:=by
      refine Nat.lt_of_not_le fun h=>hb fun t o=>?_;rw [List.getElem?_eq_getElem n,u j n] at o;cases o;exact h
    exact Nat.lt_of_lt_of_le h5 (m xs[j])
theorem qoq (l : List qf) (m : l.length≤400) (x : ∀ b∈l,vB b) : q8g l = some (if 400 < (mrgB 2 l []).length then ([],4) else (mrgB 2 l [],0)):=by
  unfold q8g;have aa:=Jv l;simp only [show idx [l] 0 = some l from rfl,qj,q17b l [] m qe,List.nil_append];rw [q15d _ q0];simp only [qj];have t : zsOf l = zsOf l ++ zsOf []:=by simp [zsOf]
  obtain ⟨_,y,d⟩:=Ut (l:=zsOf l ++ zsOf []) (by rw [← t];omega);have d : (Qy (zsOf l ++ zsOf [])).length≤800:=by rw [← t] at d ⊢;omega
  have g : ∀ z,q77 (atB l z) = some (if 400 < (secB 2 l [] z).length then ([],4) else (secB 2 l [] z,0)):=fun z=>by
    have:=Ur l z;rw [qzv,mkR,qs q0,qq (q16s x z)];rfl
  rw [t]
  have:=q11x (kind:=2) (p:=l) (q:=[]) rfl (by simp;omega) (q5j (Qy (zsOf l ++ zsOf [])) l)
    (fun a b k s hs f r hb u=>by
      have h0 : k < (Qy (zsOf l ++ zsOf [])).length:=by omega
      have o : idx (Qy (zsOf l ++ zsOf [])) (w64 (((k + 1 : Nat) : Int) - 1)) = some a:=by rw [qv q0,r];exact q21 q0 q0
      have v : idx (Qy (zsOf l ++ zsOf [])) ((k + 1 : Nat) : Int) = some b:=by rw [hb];exact Qw f
      have h:=g a;rw [qs q0] at h;simp only [q5j,dlt f,qz,o,v,qj,show idx [l] 0 = some l from rfl,qjf l m,h,show ((0 : Int) != 0) = false from rfl,qy,q155 s a b (secB 2 l [] a) q0]
      rw [w64s f q0])
    (fun a k s f r u=>by
      have o : idx (Qy (zsOf l ++ zsOf [])) (w64 (((k + 1 : Nat) : Int) - 1)) = some a:=by rw [qv q0,r];exact q21 q0 q0
      have h:=g a;rw [qq u] at h
      simp only [q5j,dlt f,qz,o,Qw f,qj,show idx [l] 0 = some l from rfl,qjf l m,h,show ((4 : Int) != 0) = true from rfl])
    (fun k s f=>by
      have : decide (((k + 1 : Nat) : Int) < ((Qy (zsOf l ++ zsOf [])).length : Int)) = false:=Q8 q0
      simp only [q5j,this,qy])
  rcases this with ⟨a,b,c,n⟩ | ⟨j,n⟩
  · rw [n];simp only [qj];by_cases j : 400 < (mrgB 2 l []).length
    · rw [Qb (by omega : ((mrgB 2 l []).length : Int) > 400),qq j];rfl
    · rw [Q8 (by omega : ¬ ((mrgB 2 l []).length : Int) > 400),qs j];rfl
  · rw [n,qq j];rfl
theorem q150 (l : List qf) : qb7 l = some (mkB l):=by
  unfold qb7 mkB;by_cases b : 400 < l.length
  · rw [Qb (by omega : (l.length : Int) > 400),qz,qq b]
  rw [Q8 (by omega : ¬ (l.length : Int) > 400),qy,qs b,q15a l q0,qj];by_cases a : ∀ r∈l,vB r
  · rw [Q8 (fun h=>h a),qy,qoq l q0 a,qq a];rfl
  · rw [Qb a,qz,qs a]
theorem qty (p q : List qf) (a : p.length≤1000000) : qe1 p q = some (decide (p = q)):=sameBox p q a
theorem qe7 (l : List qf) : q3m l = some (Kh l):=by
  unfold q3m Kh;by_cases d : 400 < l.length
  · rw [Qb (by omega : (l.length : Int) > 400),qz,qq d]
  rw [Q8 (by omega : ¬ (l.length : Int) > 400),qy,qs d,q159 l q0,qj];by_cases a : ∀ r∈l,vB r
  · rw [Q8 (fun h=>h a),qy,qoq l q0 a,qq a,qj];by_cases b : 400 < (mrgB 2 l []).length
    · have c : mrgB 2 l []≠l:=fun h=>by rw [h] at b;exact d b
      rw [qq b,qs c];rfl
    · rw [qs b];simp only [qty (mrgB 2 l []) l q0];by_cases f : mrgB 2 l [] = l <;> simp [f]
  · rw [Qb a,qz,qs a]
end Go.Sh
namespace Go.Sh
open Go Go.Am
def q5x (kind : Int) (p q : List qf) (z : Int) : Prop:=400 < (secB kind p q z).length∨400 < (secB 2 p [] z).length∨400 < (secB 2 q [] z).length
theorem qvy (kind : Int) {p q : List qf} (h : p.length + q.length≤800) (u : ∀ z,(atB p z).length + (atB q z).length≤490) {xs : List Int} (m : xs.length≤1000000) {i : Nat} (hi : i + 1 < xs.length) (hb : q5x kind p q (xs[i]'(q0))) (a : Int) (c : List ql) (o : List qf) :
    q27 xs p q kind (c,a,(i : Int),o) = some (.inr (.inr ([],false))):=by
  have b : i < xs.length:=by omega
  have g : w64 ((i : Int) + 1) = ((i + 1 : Nat) : Int):=w64s b m;have x:=Ur p xs[i];have y:=Ur q xs[i];have nz:=u xs[i];have t : U9 p xs[i] = some (atB p xs[i]):=qdm p q0 _;have aq : U9 q xs[i] = some (atB q xs[i]):=qdm q q0 _;have r : Jp kind (atB p xs[i]) (atB q xs[i]) = some (secB kind p q xs[i]):=q6v kind q0;have l : Jp 2 (atB p xs[i]) [] = some (secB 2 p [] xs[i]):=q6v 2 (by simp;omega);have n : Jp 2 (atB q xs[i]) [] = some (secB 2 q [] xs[i]):=q6v 2 (by simp;omega);unfold q27;simp only [g,dlt hi,qz,Qw b,t,aq,r,l,n,qj];by_cases s : 400 < (secB kind p q xs[i]).length
  · have d : decide (((secB kind p q xs[i]).length : Int) > 400) = true:=Qb q0;simp only [d,qz,qj]
  have d : decide (((secB kind p q xs[i]).length : Int) > 400) = false:=Q8 q0;by_cases k : 400 < (secB 2 p [] xs[i]).length
  · have f : decide (((secB 2 p [] xs[i]).length : Int) > 400) = true:=Qb q0;simp only [d,f,qz,qy,qj]
  have f : decide (((secB 2 p [] xs[i]).length : Int) > 400) = false:=Q8 q0;have v : 400 < (secB 2 q [] xs[i]).length:=by rcases hb with h | h | h <;> first | exact absurd h s | exact absurd h k | exact h
  have j : decide (((secB 2 q [] xs[i]).length : Int) > 400) = true:=Qb q0;simp only [d,f,j,qz,qy,qj]
theorem qze (kind : Int) {p q : List qf} (h : p.length + q.length≤800) (hz : ∀ z,(atB p z).length + (atB q z).length≤490) :
    q4y kind p q = some (mrgB kind p q,decide (((mrgB kind p q).length : Int)≤400))∨(q4y kind p q = some ([],false)∧∃ z,q5x kind p q z):=by
  unfold q4y;rw [qza q0];simp only [qj];have al:=Jv p;have ad:=Jv q;obtain ⟨_,af,o⟩:=Ut (l:=zsOf p ++ zsOf q) (by simp;omega);have aa : (Qy (zsOf p ++ zsOf q)).length≤1600:=by simp at o;omega
  unfold mrgB;generalize Qy (zsOf p ++ zsOf q) = xs at aa ⊢;generalize r : Yy xs (secB kind p q) = steps;have ai : steps.length = xs.length - 1:=by rw [← r];exact qbj _ _
  have a : ∀ k (b : k < steps.length),steps[k] = (xs[k]'(q0),xs[k + 1]'(q0),secB kind p q (xs[k]'(q0))):=fun k b=>by subst r;exact qbi b q0
  have x : ∀ k,k≤steps.length→(∀ j,j < k→∀ t,steps[j]? = some t→¬ q5x kind p q t.1)→((K4 putB K2 (steps.take k)).flat putB).length≤1600 * 400:=fun k b d=>by
    have h1:=qfw putB (s0:=K2) (M:=400) (steps:=steps.take k) (fun t c=>by
      obtain ⟨i,hi,rfl⟩:=List.getElem_of_mem c;rw [List.length_take] at hi;rw [List.getElem_take];have:=d i q0 _ (List.getElem?_eq_getElem q0);rw [a i q0] at this ⊢
      exact Nat.le_of_not_lt fun h=>this (.inl h))
    have n : (steps.take k).length≤1600:=by rw [List.length_take];omega
    have h3 : (K2.flat putB : List qf).length = 0:=rfl;have h4 : (steps.take k).length * 400≤1600 * 400:=Nat.mul_le_mul_right _ n;omega
  have main:=qgl (f:=q27 xs p q kind) (fun k=>((K4 putB K2 (steps.take k)).sec,((K4 putB K2 (steps.take k)).done.length : Int),(k : Int),(K4 putB K2 (steps.take k)).flat putB))
    steps.length (fun j=>∀ t,steps[j]? = some t→¬ q5x kind p q t.1) (.inl ((K4 putB K2 steps).flat putB)) (.inr ([],false)) (fun k b d=>by
      have g : k + 1 < xs.length:=by omega
      have u:=d k (Nat.le_refl _) _ (List.getElem?_eq_getElem b);have hm:=x k q0 fun j ah=>d j q0;rw [a k b] at u
      have s : qiz kind p q xs[k]:=by
        refine ⟨hz _,?_,?_,?_⟩
        · exact Nat.le_of_not_lt fun h=>u (.inl h)
        · exact Nat.le_of_not_lt fun h=>u (.inr (.inl h))
        · exact Nat.le_of_not_lt fun h=>u (.inr (.inr h))
      have:=qvz kind q0 (xs:=xs) q0 g s (K4 putB K2 (steps.take k)) q0 (fun h0=>by subst h0;rfl) (fun ac=>by
        obtain ⟨m,rfl⟩ : ∃ m,k = m + 1:=⟨k - 1,q0⟩
        rw [q68 putB q0,qf5,a m q0])
      rw [this,q68 putB b,a k b])
    (fun k b _ hb=>by
      have g : k + 1 < xs.length:=by omega
      have aj : k < xs.length:=by omega
      refine qvy kind h hz q0 g ?_ _ _ _;refine Classical.byContradiction fun y=>hb fun t c=>?_;rw [List.getElem?_eq_getElem b,a k b] at c
      cases c;exact y)
    (fun _=>by
      rw [List.take_length]
      have hb : decide (w64 ((steps.length : Int) + 1) < (xs.length : Int)) = false:=by
        rw [qv q0];exact Q8 q0
      unfold q27
      simp only [hb,qy])
  have v : (((K4 putB K2 (steps.take 0)).sec,((K4 putB K2 (steps.take 0)).done.length : Int),((0 : Nat) : Int),(K4 putB K2 (steps.take 0)).flat putB) : List ql × Int × Int × List qf) = ([],0,0,[]):=rfl;rw [v] at main;rcases main with ⟨h1,n⟩ | ⟨j,d,hb,n⟩
  · exact .inl (by rw [n];rfl)
  · refine .inr ⟨by rw [n];rfl,?_⟩;have ae : j < xs.length:=by omega
    refine ⟨xs[j],?_⟩;refine Classical.byContradiction fun y=>hb fun t c=>?_;rw [List.getElem?_eq_getElem d,a j d] at c;cases c;exact y
theorem qrl {p q : List qf} (h : p.length + q.length≤490) (z : Int) : (atB p z).length + (atB q z).length≤490:=by
  have a:=Ur p z;have b:=Ur q z;omega
theorem q11q (kind : Int) (z : Int) : secB kind [] [] z = []:=qgw kind
theorem qzc (kind : Int) {p q : List qf} (h : p.length + q.length≤800) (b : ∀ z,(atB p z).length + (atB q z).length≤490) (hs : ∀ z,q5x kind p q z→400 < (mrgB kind p q).length) :
    ∃ o,q4y kind p q = some (o,decide ((mrgB kind p q).length≤400))∧((mrgB kind p q).length≤400→o = mrgB kind p q):=by
  rcases qze kind h b with a | ⟨a,z,b⟩
  · refine ⟨_,?_,fun _=>rfl⟩;rw [a];have : decide (((mrgB kind p q).length : Int)≤400) = decide ((mrgB kind p q).length≤400):=decide_eq_decide.2 q0;rw [this]
  · have:=hs z b;refine ⟨[],?_,fun h=>absurd h q0⟩;rw [a,Q8 q0]
theorem q11w {l : List qf} (h : l.length≤100000) : ∀ z,q5x 2 l [] z→400 < (mrgB 2 l []).length:=by
  intro z a;have b:=qox 2 (p:=l) (q:=[]) (by simpa using h) z;rcases a with a | a | a
  · omega
  · omega
  · rw [q11q] at a;simp at a
theorem qzi (l : List qf) (_ : l.length≤1000000) {γ : Type} (f : Int→Option (Int ⊕ (Unit ⊕ γ))) (e : γ) (d : ∀ k (h : k < l.length),f (k : Int) = some (if (fun r=>!decide (vB r)) l[k] = true then .inr (.inr e) else .inl ((k + 1 : Nat) : Int))) (hd : f (l.length : Int) = some (.inr (.inl ()))) :
    loop f 0 = some (if ∀ b∈l,vB b then .inl () else .inr e):=by
  rcases Uu l (fun r=>!decide (vB r)) (fun k _=>e) () f d hd with ⟨j,a⟩ | ⟨k,c,m,_,a⟩
  · have : ∀ r∈l,vB r:=fun r g=>by simpa using j r g
    rw [qq this];exact a
  · have : ¬ ∀ r∈l,vB r:=fun h=>by simp [h _ (Y7 c)] at m
    rw [qs this];exact a
theorem qz9 (l : List qf) : q6y l = some (Kh l):=by
  unfold q6y Kh;by_cases d : 400 < l.length
  · rw [Qb (by omega : (l.length : Int) > 400),qz,qq d]
  rw [Q8 (by omega : ¬ (l.length : Int) > 400),qy,qs d]
  rw [qzi l q0 (q6z l) 8 (fun k c=>by
    simp only [q6z,dlt c,qz,Qw c,qj,qzg,w64s c q0]
    by_cases a : vB l[k] <;> simp [a]) (by simp only [q6z,dnl,qy])]
  by_cases a : ∀ r∈l,vB r
  · rw [qq a,qq a];obtain ⟨o,m,g⟩:=qzc 2 (p:=l) (q:=[]) (by simp;omega) (qrl (by simp;omega)) (q11w q0);simp only [qj,m];by_cases f : 400 < (mrgB 2 l []).length
    · have b : mrgB 2 l []≠l:=fun h=>by rw [h] at f;exact d f
      rw [Q8 q0,qs b];rfl
    · rw [Qb q0,g q0,sameBox _ l q0];by_cases j : mrgB 2 l [] = l <;> simp [j]
  · rw [qs a,qs a];rfl
end Go.Sh
namespace Go.Sh
open Go Go.Am
def sumN : Nat→(Int→Int)→Int
  | 0,_=>0
  | n + 1,f=>sumN n f + f n
theorem q2f {f g : Int→Int} : ∀ {n : Nat},(∀ k : Nat,k < n→f k = g k)→sumN n f = sumN n g
  | 0,_=>rfl
  | n + 1,h=>by rw [sumN,sumN,q2f (n:=n) fun k a=>h k q0,h n q0]
theorem qee {f g : Int→Int} : ∀ {n : Nat},sumN n (fun x=>f x + g x) = sumN n f + sumN n g
  | 0=>rfl
  | n + 1=>by rw [sumN,sumN,sumN,qee (n:=n)];omega
theorem qq4 {f g : Int→Int} : ∀ {n : Nat},sumN n (fun x=>f x - g x) = sumN n f - sumN n g
  | 0=>rfl
  | n + 1=>by rw [sumN,sumN,sumN,qq4 (n:=n)];omega
theorem qig {c : Int} {f : Int→Int} : ∀ {n : Nat},sumN n (fun x=>c * f x) = c * sumN n f
  | 0=>by simp [sumN]
  | n + 1=>by rw [sumN,sumN,qig (n:=n),Int.mul_add]
theorem qef : ∀ {n : Nat},sumN n (fun _=>0) = 0
  | 0=>rfl
  | n + 1=>by rw [sumN,qef (n:=n)];rfl
theorem qq5 {f : Int→Int→Int} {m : Nat} : ∀ {n : Nat},sumN n (fun x=>sumN m fun y=>f x y) = sumN m fun y=>sumN n fun x=>f x y
  | 0=>qef.symm
  | n + 1=>by
    have : (fun y=>sumN (n + 1) fun x=>f x y) = fun y=>(fun y=>sumN n fun x=>f x y) y + (fun y=>f n y) y:=rfl
    rw [sumN,qq5 (n:=n),this,qee]
theorem qq3 {f g : Int→Int} : ∀ {n : Nat},(∀ k : Nat,k < n→f k≤g k)→sumN n f≤sumN n g
  | 0,_=>Int.le_refl _
  | n + 1,h=>by have:=qq3 (n:=n) fun k a=>h k q0;have:=h n q0;rw [sumN,sumN];omega
theorem q164 {f : Int→Int} : ∀ {n : Nat},sumN n (fun x=>f ((n : Int) - 1 - x)) = sumN n f:=by
  have key : ∀ (n m : Nat),m≤n→sumN m (fun x=>f ((n : Int) - 1 - x)) + sumN (n - m) f = sumN n f:=by
    intro n m
    induction m with
    | zero=>intro _;simp [sumN]
    | succ m ih=>
      intro h;have a:=ih q0;have e : n - m = (n - (m + 1)) + 1:=by omega
      rw [e,sumN] at a;rw [sumN,← a];have : ((n - (m + 1) : Nat) : Int) = (n : Int) - 1 - m:=by omega
      rw [this];omega
  intro n;have:=key n n (Nat.le_refl _);simpa [sumN] using this
noncomputable def ind (p : Prop) : Int:=by classical exact if p then 1 else 0
theorem Zq {p : Prop} (h : p) : ind p = 1:=by unfold ind;simp [h]
theorem Ko {p : Prop} (h : ¬ p) : ind p = 0:=by unfold ind;simp [h]
theorem Ym {p q : Prop} (h : p↔q) : ind p = ind q:=by rw [propext h]
theorem q4g {p q : Prop} : ind (p∧q) = ind p * ind q:=by
  by_cases hp : p <;> by_cases hq : q
  · rw [Zq ⟨hp,hq⟩,Zq hp,Zq hq];rfl
  · rw [Ko (fun h=>hq h.2),Ko hq];simp
  · rw [Ko (fun h=>hp h.1),Ko hp];simp
  · rw [Ko (fun h=>hp h.1),Ko hp];simp
theorem qvp {p q : Prop} : ind (p∨q) = ind p + ind q - ind (p∧q):=by
  by_cases hp : p <;> by_cases hq : q <;> simp [ind,hp,hq]
theorem qvo {p : Prop} : ind (¬ p) = 1 - ind p:=by by_cases hp : p <;> simp [ind,hp]
theorem Jm {p : Prop} : 0≤ind p∧ind p≤1:=by by_cases hp : p <;> simp [ind,hp]
theorem qif (a b : Int) : ∀ {n : Nat},sumN n (fun x=>ind (a≤x∧x < b)) = max 0 (min b n - max a 0)
  | 0=>by rw [sumN];omega
  | n + 1=>by
    rw [sumN,qif a b (n:=n)]
    by_cases h : a≤(n : Int)∧(n : Int) < b
    · rw [Zq h];omega
    · rw [Ko h];omega
def sumZ (N : Nat) (f : Int→Int) : Int:=sumN (2 * N) fun k=>f (k - N)
theorem Zx {N : Nat} {f g : Int→Int} (h : ∀ x : Int,-(N : Int)≤x→x < N→f x = g x) : sumZ N f = sumZ N g:=
  q2f fun k a=>h _ q0 q0
theorem qq6 {N : Nat} {f g : Int→Int} : sumZ N (fun x=>f x + g x) = sumZ N f + sumZ N g:=qee
theorem q166 {N : Nat} {f g : Int→Int} : sumZ N (fun x=>f x - g x) = sumZ N f - sumZ N g:=qq4
theorem Ub {N : Nat} {c : Int} {f : Int→Int} : sumZ N (fun x=>c * f x) = c * sumZ N f:=qig
theorem qei {N : Nat} : sumZ N (fun _=>0) = 0:=qef
theorem qq7 {N : Nat} {f : Int→Int→Int} : sumZ N (fun x=>sumZ N fun y=>f x y) = sumZ N fun y=>sumZ N fun x=>f x y:=qq5
theorem q5r {N : Nat} {f g : Int→Int} (h : ∀ x : Int,-(N : Int)≤x→x < N→f x≤g x) : sumZ N f≤sumZ N g:=
  qq3 fun k a=>h _ q0 q0
theorem q165 {N : Nat} {f : Int→Int} : sumZ N (fun x=>f (-1 - x)) = sumZ N f:=by
  unfold sumZ;rw [← q164 (n:=2 * N) (f:=fun k=>f (k - N))];refine q2f fun k a=>?_;have : ((2 * N : Nat) : Int) - 1 - k - N = -1 - (k - N):=by omega
  simp only [this]
theorem qeh {N : Nat} {a b : Int} (d : -N≤a) (c : a≤b) (f : b≤N) : sumZ N (fun x=>ind (a≤x∧x < b)) = b - a:=by
  unfold sumZ
  have : (fun k : Int=>ind (a≤k - N∧k - N < b)) = fun k=>ind (a + N≤k∧k < b + N):=by
    funext k;exact Ym ⟨fun h=>q0,fun h=>q0⟩
  simp only [this];rw [qif];omega
theorem qii {N : Nat} {f : Int→Int} (h : ∀ x : Int,-(N : Int)≤x→x < N→0≤f x) : 0≤sumZ N f:=by
  rw [← qei (N:=N)];exact q5r h
theorem qeg {N : Nat} {c : Int} : sumZ N (fun _=>c) = 2 * N * c:=by
  have : ∀ n : Nat,sumN n (fun _=>c) = n * c:=by
    intro n
    induction n with
    | zero=>simp [sumN]
    | succ n ih=>rw [sumN,ih,Int.natCast_succ,Int.add_mul,Int.one_mul]
  unfold sumZ;rw [this];simp
noncomputable def cnt3 (N : Nat) (P : Int→Int→Int→Prop) : Int:=sumZ N fun x=>sumZ N fun y=>sumZ N fun z=>ind (P x y z)
theorem qsz {N : Nat} {P Q : Int→Int→Int→Prop} (h : ∀ x y z : Int,-(N : Int)≤x∧x < N→-(N : Int)≤y∧y < N→-(N : Int)≤z∧z < N→(P x y z↔Q x y z)) : cnt3 N P = cnt3 N Q:=
  Zx fun x d b=>Zx fun y g c=>Zx fun z f a=>Ym (h x y z ⟨d,b⟩ ⟨g,c⟩ ⟨f,a⟩)
def sumL {α : Type} (f : α→Int) : List α→Int
  | []=>0
  | a::r=>f a + sumL f r
theorem q8j {α : Type} (f : α→Int) (a b : List α) : sumL f (a ++ b) = sumL f a + sumL f b:=by
  induction a with
  | nil=>simp [sumL]
  | cons x a ih=>rw [List.cons_append,sumL,sumL,ih];omega
theorem Zw {α : Type} {f g : α→Int} {l : List α} (h : ∀ a∈l,f a = g a) : sumL f l = sumL g l:=by
  induction l with
  | nil=>rfl
  | cons a l ih=>rw [sumL,sumL,h a qe,ih fun b hb=>h b (by simp [hb])]
theorem qed {α β : Type} (f : β→Int) (g : α→β) (l : List α) : sumL f (l.map g) = sumL (fun a=>f (g a)) l:=by
  induction l with
  | nil=>rfl
  | cons a l ih=>rw [List.map_cons,sumL,sumL,ih]
theorem qbm {α : Type} (c : Int) (f : α→Int) (l : List α) : sumL (fun a=>c * f a) l = c * sumL f l:=by
  induction l with
  | nil=>simp [sumL]
  | cons a l ih=>rw [sumL,sumL,ih,Int.mul_add]
theorem qie {α : Type} (f g : α→Int) (l : List α) : sumL (fun a=>f a + g a) l = sumL f l + sumL g l:=by
  induction l with
  | nil=>rfl
  | cons a l ih=>rw [sumL,sumL,sumL,ih];omega
theorem qq0 {α : Type} (f g : α→Int) (l : List α) : sumL (fun a=>f a - g a) l = sumL f l - sumL g l:=by
  induction l with
  | nil=>rfl
  | cons a l ih=>rw [sumL,sumL,sumL,ih];omega
theorem qq2 {α : Type} (l : List α) : sumL (fun _ : α=>0) l = 0:=by
  induction l with
  | nil=>rfl
  | cons a l ih=>rw [sumL,ih];rfl
theorem q5q {α : Type} {N : Nat} (f : α→Int→Int) (l : List α) : sumL (fun a=>sumZ N (f a)) l = sumZ N fun x=>sumL (fun a=>f a x) l:=by
  induction l with
  | nil=>exact qei.symm
  | cons a l ih=>
    have : (fun x=>sumL (fun a=>f a x) (a::l)) = fun x=>f a x + (fun x=>sumL (fun a=>f a x) l) x:=rfl;rw [sumL,ih,this,qq6]
def inB (b : qf) (x y z : Int) : Prop:=(b.Lo.X≤x∧x < b.Hi.X)∧(b.Lo.Y≤y∧y < b.Hi.Y)∧(b.Lo.Z≤z∧z < b.Hi.Z)
def inR (r : ql) (x y : Int) : Prop:=(r.X0≤x∧x < r.X1)∧(r.Y0≤y∧y < r.Y1)
def inS (t : qo) (x : Int) : Prop:=t.Lo≤x∧x < t.Hi
def volB (b : qf) : Int:=(b.Hi.X - b.Lo.X) * (b.Hi.Y - b.Lo.Y) * (b.Hi.Z - b.Lo.Z)
theorem q16u {N : Nat} {b : qf} (h : (b.Lo.X≤b.Hi.X∧b.Lo.Y≤b.Hi.Y∧b.Lo.Z≤b.Hi.Z)∧(-(N : Int)≤b.Lo.X∧-(N : Int)≤b.Lo.Y∧-(N : Int)≤b.Lo.Z)∧b.Hi.X≤N∧b.Hi.Y≤N∧b.Hi.Z≤N) :
    volB b = cnt3 N (inB b):=by
  obtain ⟨⟨j,f,m⟩,⟨g,l,a⟩,k,d,c⟩:=h;unfold cnt3
  have e : ∀ x y,(sumZ N fun z=>ind (inB b x y z)) = ind (b.Lo.X≤x∧x < b.Hi.X) * (ind (b.Lo.Y≤y∧y < b.Hi.Y) * (b.Hi.Z - b.Lo.Z)):=fun x y=>by
    have : (fun z=>ind (inB b x y z)) = fun z=>ind (b.Lo.X≤x∧x < b.Hi.X) * (ind (b.Lo.Y≤y∧y < b.Hi.Y) * ind (b.Lo.Z≤z∧z < b.Hi.Z)):=by
      funext z;unfold inB;rw [q4g (p:=_∧_) (q:=(_∧_)∧_),q4g (p:=_∧_) (q:=_∧_)]
    rw [this,Ub,Ub,qeh a m c]
  have n : ∀ x,(sumZ N fun y=>sumZ N fun z=>ind (inB b x y z)) = ind (b.Lo.X≤x∧x < b.Hi.X) * ((b.Hi.Y - b.Lo.Y) * (b.Hi.Z - b.Lo.Z)):=fun x=>by
    have : (fun y=>sumZ N fun z=>ind (inB b x y z)) = fun y=>ind (b.Lo.X≤x∧x < b.Hi.X) * ((b.Hi.Z - b.Lo.Z) * ind (b.Lo.Y≤y∧y < b.Hi.Y)):=by
      funext y;rw [e,Int.mul_comm (b.Hi.Z - b.Lo.Z)]
    rw [this,Ub,Ub,qeh l f d,Int.mul_comm (b.Hi.Z - b.Lo.Z)]
  have : (fun x=>sumZ N fun y=>sumZ N fun z=>ind (inB b x y z)) = fun x=>((b.Hi.Y - b.Lo.Y) * (b.Hi.Z - b.Lo.Z)) * ind (b.Lo.X≤x∧x < b.Hi.X):=by
    funext x;rw [n,Int.mul_comm]
  rw [this,Ub,qeh g j k,volB];simp only [Int.mul_assoc,Int.mul_comm]
noncomputable def cntS (s : List qo) (y : Int) : Int:=sumL (fun t=>ind (inS t y)) s
noncomputable def cntR (l : List ql) (x y : Int) : Int:=sumL (fun t=>ind (inR t x y)) l
noncomputable def cntB (l : List qf) (x y z : Int) : Int:=sumL (fun t=>ind (inB t x y z)) l
theorem qjz : ∀ {s : List qo},Can s→∀ y,cntS s y = ind (has s y)
  | [],_,y=>by rw [Ko (q20 y)];rfl
  | a::s,h,y=>by
    have b:=qjz h.tail y
    unfold cntS at b ⊢
    rw [sumL,b,Ym (Zv (a:=a) (s:=s) (x:=y)),qvp]
    have : ¬ ((a.Lo≤y∧y < a.Hi)∧has s y):=fun ⟨c,h2⟩=>by have:=h.tail_gt h2;omega
    rw [Ko this];unfold inS;omega
theorem qt3 (l : List ql) (x y : Int) : cntR l x y = cntS (covS l x) y:=by
  unfold cntR cntS
  induction l with
  | nil=>rfl
  | cons r l ih=>
    have e : covS (r::l) x = (if covR x r = true then [ysp r] else []) ++ covS l x:=rfl;rw [sumL,ih,e,q8j];congr 1;by_cases a : covR x r = true
    · rw [qq a];have:=q63.1 a;simp only [sumL,Int.add_zero];exact Ym ⟨fun h=>h.2,fun h=>⟨this,h⟩⟩
    · rw [qs a];rw [q63] at a;exact Ko fun h=>a h.1
theorem qt0 (l : List qf) (x y z : Int) : cntB l x y z = cntR (atB l z) x y:=by
  unfold cntB cntR
  induction l with
  | nil=>rfl
  | cons r l ih=>
    have e : atB (r::l) z = (if covB z r = true then [Jq r] else []) ++ atB l z:=rfl;rw [sumL,ih,e,q8j];congr 1;by_cases a : covB z r = true
    · rw [qq a];have:=q2q.1 a;simp only [sumL,Int.add_zero];exact Ym ⟨fun h=>⟨h.1,h.2.1⟩,fun h=>⟨h.1,h.2,this⟩⟩
    · rw [qs a];rw [q2q] at a;exact Ko fun h=>a h.2.2
theorem CanR.cnt {l : List ql} (h : CanR l) (x y : Int) : cntR l x y = ind (hasR l x y):=by
  rw [qt3,qjz (h.cov x),Ym q15]
theorem CanB.cnt {l : List qf} (h : CanB l) (x y z : Int) : cntB l x y z = ind (hasB l x y z):=by
  rw [qt0,(h.at z).cnt,Ym q4e]
def volL (l : List qf) : Int:=sumL volB l
theorem qip {N : Nat} {l : List qf} (a : ∀ x y z,cntB l x y z = ind (hasB l x y z)) (h : ∀ b∈l,(b.Lo.X≤b.Hi.X∧b.Lo.Y≤b.Hi.Y∧b.Lo.Z≤b.Hi.Z)∧(-(N : Int)≤b.Lo.X∧-(N : Int)≤b.Lo.Y∧-(N : Int)≤b.Lo.Z)∧b.Hi.X≤N∧b.Hi.Y≤N∧b.Hi.Z≤N) :
    volL l = cnt3 N (hasB l):=by
  unfold volL;rw [Zw fun b hb=>q16u (h b hb)];unfold cnt3;rw [q5q];congr 1;funext x;rw [q5q];congr 1;funext y;rw [q5q];congr 1;funext z;exact a x y z
theorem q16v {l : List qf} (a : CanB l) (h : ∀ b∈l,vB b) : volL l = cnt3 1000000 (hasB l):=
  qip a.cnt fun b hb=>by have:=h b hb;unfold vB at this;omega
end Go.Sh
namespace Go.Sh
open Go Go.Am
theorem qug {α β γ : Type} (l : List α) (_ : l.length≤1000000) (g : γ→α→γ) (fin : γ→β) (f : γ × Int→Option ((γ × Int) ⊕ β))
    (hs : ∀ k (h : k < l.length) (s : γ),f (s,(k : Int)) = some (.inl (g s l[k],((k + 1 : Nat) : Int)))) (hd : ∀ s,f (s,(l.length : Int)) = some (.inr (fin s))) (s : γ) :
    loop f (s,0) = some (fin (l.foldl g s)):=by
  have key:=Zf (f:=f) (fun k=>((l.take k).foldl g s,(k : Int))) l.length (fin (l.foldl g s)) (fun k a=>by
    rw [hs k a,List.take_succ_eq_append_getElem a,List.foldl_append];rfl) (by rw [List.take_length,hd]) (Nat.zero_le _)
  exact key
theorem qiq (x : Int) : w64 x = if 9223372036854775808≤x % 18446744073709551616 then x % 18446744073709551616 - 18446744073709551616 else x % 18446744073709551616:=by
  unfold w64 IntKind.wrap;simp [IntKind.bits,IntKind.signed]
theorem qqs (x y : Int) (h : x % 18446744073709551616 = y % 18446744073709551616) : w64 x = w64 y:=by rw [qiq,qiq,h]
theorem qqt (x : Int) : w64 x % 18446744073709551616 = x % 18446744073709551616:=by rw [qiq];split <;> omega
theorem qet (a b : Int) : w64 (w64 a + b) = w64 (a + b):=qqs _ _ (by have:=qqt a;omega)
theorem q16y (a b : Int) : w64 (a - w64 b) = w64 (a - b):=qqs _ _ (by have:=qqt b;omega)
theorem qha {x y z : Int} (c : 0≤x∧x≤2000000) (a : 0≤y∧y≤2000000) (b : 0≤z∧z≤2000000) : (0≤x * y∧x * y≤4000000000000)∧0≤x * y * z∧x * y * z≤8000000000000000000:=by
  have d : 0≤x * y:=Int.mul_nonneg c.1 a.1;have f : x * y≤2000000 * 2000000:=Int.mul_le_mul c.2 a.2 a.1 q0;have h : 0≤x * y * z:=Int.mul_nonneg d b.1;have g : x * y * z≤4000000000000 * 2000000:=Int.mul_le_mul q0 b.2 b.1 q0;omega
theorem qld {α : Type} (f : α→Int) : ∀ (l : List α) (n m : Int),n = w64 m→l.foldl (fun n b=>w64 (n + f b)) n = w64 (m + sumL f l)
  | [],n,m,h=>by simp [sumL,h]
  | b::l,n,m,h=>by
    rw [List.foldl_cons,qld f l _ (m + f b) (by rw [h,qet]),sumL,Int.add_assoc]
theorem qsy (N : Nat) (P : Int→Int→Int→Prop) : 0≤cnt3 N P∧cnt3 N P≤2 * N * (2 * N * (2 * N * 1)):=by
  constructor
  · exact qii fun x _ _=>qii fun y _ _=>qii fun z _ _=>Jm.1
  · rw [← qeg (N:=N) (c:=1),← qeg,← qeg];exact q5r fun x _ _=>q5r fun y _ _=>q5r fun z _ _=>Jm.2
theorem qm1 {b : qf} {l : List qf} {x y z : Int} : hasB (b::l) x y z↔inB b x y z∨hasB l x y z:=by
  constructor
  · rintro ⟨c,a,h⟩;rcases List.mem_cons.1 a with rfl | a
    · exact .inl h
    · exact .inr ⟨c,a,h⟩
  · rintro (h | ⟨c,a,h⟩)
    · exact ⟨b,qe,h⟩
    · exact ⟨c,by simp [a],h⟩
instance (b : qf) (x y z : Int) : Decidable (inB b x y z):=by unfold inB;infer_instance
instance qtp : (l : List qf)→(x y z : Int)→Decidable (hasB l x y z)
  | [],x,y,z=>isFalse (qcr x y z)
  | b::l,x,y,z=>by
    have:=qtp l x y z
    exact decidable_of_iff _ qm1.symm
theorem q14v (b : qf) (v : qh) : q5d b v = some (decide (inB b v.X v.Y v.Z)):=by
  unfold q5d inB;by_cases f : b.Lo.X≤v.X <;> by_cases c : v.X < b.Hi.X <;> by_cases h : b.Lo.Y≤v.Y <;> by_cases d : v.Y < b.Hi.Y <;> by_cases g : b.Lo.Z≤v.Z <;> by_cases a : v.Z < b.Hi.Z <;> simp [f,c,h,d,g,a]
theorem qi6 (l : List qf) (v : qh) (d : l.length≤1000000) : q5c l v = some (decide (hasB l v.X v.Y v.Z)):=by
  unfold q5c Um q7f
  rcases Uu l (fun b=>decide (inB b v.X v.Y v.Z)) (fun k _=>(k : Int)) () (Js l (fun x0=>q5d x0 v)) (fun k a=>by
    simp only [Js,dlt a,qz,Qw a,qj,q14v,w64s a d]
    by_cases c : inB l[k] v.X v.Y v.Z <;> simp [c]) (by simp only [Js,dnl,qy]) with ⟨h1,h2⟩ | ⟨k,a,hc,_,h2⟩
  · rw [h2];simp only [qj];congr 1;rw [show decide ((-1 : Int) ≥ 0) = false from rfl];refine (Q8 ?_).symm;rintro ⟨b,hb,h⟩;have:=h1 b hb;simp at this;exact this h
  · rw [h2];simp only [qj];congr 1;rw [Qb (by omega : (k : Int) ≥ 0)];refine (Qb ?_).symm;exact ⟨l[k],Y7 a,of_decide_eq_true hc⟩
end Go.Sh
