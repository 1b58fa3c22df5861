/- Su6 Su7 Su8 Su9 Su10 Su11 Rs1 Rs2 Rs3 Qb1 Rs4 -/
import Derived.Test.YtmnfbjlabfeneaaGreatK11
namespace Go.Sh
open Go Go.Am
def befC (a b : Int × Int) : Bool:=decide (a.1 * b.2 < b.1 * a.2)
def nfC (a : Int × Int × Int × Int) : Int × Int × Int:=if a.2.2.2 < 0 then (-(2 * a.2.1 - a.2.2.1),-(2 * a.1 - a.2.2.1),-a.2.2.2) else (2 * a.1 - a.2.2.1,2 * a.2.1 - a.2.2.1,a.2.2.2)
def minC (f : Int × Int) : Option (Int × Int)→Int × Int
  | none=>f
  | some u=>if befC f u = true then f else u
def Ks (s : Option ((Int × Int) × Option (Int × Int))) (a : Int × Int × Int × Int) : Option ((Int × Int) × Option (Int × Int)):=match s with
  | none=>none
  | some (f,t)=>if a.2.2.2 = 0 then (if 0≤2 * a.1 - a.2.2.1∨2 * a.2.1 - a.2.2.1≤0 then none else some (f,t)) else
      some (if befC f ((nfC a).1,2 * (nfC a).2.2) = true then ((nfC a).1,2 * (nfC a).2.2) else f,
        some (minC ((nfC a).2.1,2 * (nfC a).2.2) t))
def hitC (l : List (Int × Int × Int × Int)) : Option (Int × Int):=match l.foldl Ks (some ((0,1),none)) with
  | some (f,some t)=>if befC f t = true then some f else none
  | _=>none
def valC (a : Int × Int) : Rat:=fr a.1 a.2
theorem qbe {a b : Int × Int} (c : 0 < a.2) (hb : 0 < b.2) : befC a b = true↔valC a < valC b:=by
  unfold befC valC;rw [decide_eq_true_iff,q5f c hb]
def minO : Option Rat→Option Rat→Option Rat
  | none,b=>b
  | some a,none=>some a
  | some a,some b=>some (min a b)
theorem qtz {a : Int × Int × Int × Int} (h : a.2.2.2≠0) : valC ((nfC a).1,2 * (nfC a).2.2) = q5t a.1 a.2.1 a.2.2.1 a.2.2.2∧valC ((nfC a).2.1,2 * (nfC a).2.2) = farA a.1 a.2.1 a.2.2.1 a.2.2.2∧0 < (nfC a).2.2:=by
  unfold nfC q5t farA valC;by_cases b : a.2.2.2 < 0
  · rw [qr b,qs q0,qs q0];refine ⟨?_,?_,by show (0 : Int) < -a.2.2.2;omega⟩ <;> (simp only;congr 1;omega)
  · rw [qs b,qr q0,qr q0];exact ⟨rfl,rfl,by show (0 : Int) < a.2.2.2;omega⟩
theorem qjx : ∀ l : List (Int × Int × Int × Int),l.foldl Ks none = none
  | []=>rfl
  | a::l=>qjx l
theorem qbv : ∀ (l : List (Int × Int × Int × Int)) (f : Int × Int) (t : Option (Int × Int)),0 < f.2→(∀ u,t = some u→0 < u.2)→0≤valC f→
    (l.foldl Ks (some (f,t)) = none∧¬ Uf l)∨∃ k j,l.foldl Ks (some (f,t)) = some (k,j)∧Uf l∧0 < k.2∧(∀ u,j = some u→0 < u.2)∧valC k = max (valC f) (loT l)∧j.map valC = minO (t.map valC) (hiT l)
  | [],f,t,hf,ht,h0=>.inr ⟨f,t,rfl,by simp [Uf],hf,ht,by unfold loT;grind,by cases t <;> rfl⟩
  | a::l,f,t,hf,ht,h0=>by
    rw [List.foldl_cons]
    by_cases d : a.2.2.2 = 0
    · by_cases hb : 0≤2 * a.1 - a.2.2.1∨2 * a.2.1 - a.2.2.1≤0
      · refine .inl ⟨?_,fun h=>?_⟩
        · rw [show Ks (some (f,t)) a = none by simp only [Ks,qr d,qr hb]];exact qjx l
        · have:=h a qe d;omega
      · rw [show Ks (some (f,t)) a = some (f,t) by simp only [Ks,qr d,qs hb]]
        have g : Uf (a::l)↔Uf l:=by
          constructor
          · intro h b hb;exact h b (by simp [hb])
          · intro h b c;rcases List.mem_cons.1 c with rfl | c
            · intro _;omega
            · exact h b c
        rw [g,loT,qr d,hiT,qr d]
        exact qbv l f t hf ht h0
    · obtain ⟨r,s,n3⟩:=qtz d
      generalize p : ((nfC a).1,2 * (nfC a).2.2) = nn at r
      generalize q : ((nfC a).2.1,2 * (nfC a).2.2) = ff at s
      have y : 0 < nn.2:=by rw [← p];show (0 : Int) < 2 * (nfC a).2.2;omega
      have o : 0 < ff.2:=by rw [← q];show (0 : Int) < 2 * (nfC a).2.2;omega
      have g : Uf (a::l)↔Uf l:=by
        constructor
        · intro h b hb;exact h b (by simp [hb])
        · intro h b c;rcases List.mem_cons.1 c with rfl | c
          · intro e;exact absurd e d
          · exact h b c
      have hs : Ks (some (f,t)) a = some (if befC f nn = true then nn else f,some (minC ff t)):=by
        simp only [Ks,qs d,p,q]
      rw [hs,g,loT,qs d,hiT,qs d]
      have q1 : 0 < (if befC f nn = true then nn else f).2:=by split <;> assumption
      have v : valC (if befC f nn = true then nn else f) = max (valC f) (valC nn):=by
        have:=qbe hf y;by_cases hb : befC f nn = true
        · rw [qr hb];have:=this.1 hb;grind
        · rw [qs hb];have : ¬ valC f < valC nn:=fun h=>hb (this.2 h);grind
      have x : ∀ u,(some (minC ff t) : Option (Int × Int)) = some u→0 < u.2:=by
        intro u m
        cases t with
        | none=>cases m;exact o
        | some w=>
          have n:=ht w rfl;have m:=q86 m;rw [← m];show 0 < (if befC ff w = true then ff else w).2;split <;> assumption
      have z : (some (minC ff t) : Option (Int × Int)).map valC = minO (t.map valC) (some (valC ff)):=by
        cases t with
        | none=>rfl
        | some w=>
          have n:=ht w rfl;have:=qbe o n;show some (valC (if befC ff w = true then ff else w)) = some (min (valC w) (valC ff));by_cases hb : befC ff w = true
          · rw [qr hb];have:=this.1 hb;congr 1;grind
          · rw [qs hb];have : ¬ valC ff < valC w:=fun h=>hb (this.2 h);congr 1;grind
      rcases qbv l _ _ q1 x (by rw [v];grind) with h | ⟨k,j,h1,h2,h3,h4,h5,h6⟩
      · exact .inl h
      · refine .inr ⟨k,j,h1,h2,h3,h4,?_,?_⟩
        · rw [h5,v,← r];grind
        · rw [h6,z,← s]
          cases hiT l <;> cases t <;> simp only [minO,Option.map_none,Option.map_some] <;> (try congr 1;grind)
open Classical in
theorem qc3 {l : List (Int × Int × Int × Int)} : (hitC l).map valC = hitT l∧∀ u,hitC l = some u→0 < u.2∧0≤valC u:=by
  have g : valC (0,1) = 0:=by unfold valC fr;grind
  unfold hitC hitT;rcases qbv l (0,1) none qw qe (by rw [g];grind) with ⟨f,d⟩ | ⟨b,n,f,d,j,m,c,a⟩
  · rw [f];refine ⟨?_,qe⟩
    cases hiT l with
    | none=>rfl
    | some h=>show none = if Uf l∧loT l < h then some (loT l) else none;rw [qs fun q=>d q.1]
  · rw [f];have c : valC b = loT l:=by rw [c,g];have:=qc7 l;grind
    cases n with
    | none=>
      have a : none = hiT l:=a;rw [← a];exact ⟨rfl,qe⟩
    | some u=>
      have a : some (valC u) = hiT l:=a;have o:=m u rfl;rw [← a];show Option.map valC (if befC b u = true then some b else none) = (if Uf l∧loT l < valC u then some (loT l) else none)∧∀ w,(if befC b u = true then some b else none) = some w→_;have hb:=qbe j o;rw [c] at hb;by_cases hq : befC b u = true
      · rw [qr hq,qr ⟨d,hb.1 hq⟩];refine ⟨by rw [← c];rfl,fun w k=>?_⟩;cases k;exact ⟨j,by rw [c];exact qc7 l⟩
      · rw [qs hq,qs fun h=>hq (hb.2 h.2)];exact ⟨rfl,qe⟩
end Go.Sh
namespace Go.Sh
open Go Go.Am
abbrev axB (b : qg) (p d : ql) : AxL:=[(b.Lo.X,b.Hi.X,p.X,d.X),(b.Lo.Y,b.Hi.Y,p.Y,d.Y),(b.Lo.Z,b.Hi.Z,p.Z,d.Z)]
def posA (p d : Int) (t : Rat) : Rat:=(p : Rat) + 2 * (d : Rat) * t
def genA (p d : Int) (t : Rat) : Prop:=∀ k : Int,posA p d t≠((2 * k : Int) : Rat)
def inC (x p d : Int) (t : Rat) : Prop:=((2 * x : Int) : Rat) < posA p d t∧posA p d t < ((2 * (x + 1) : Int) : Rat)
theorem qkn {a b : Int} : ((a : Rat)≤(b : Rat))↔a≤b:=by constructor <;> intro h <;> exact_mod_cast h
theorem qfo {p d : Int} {t : Rat} (h : genA p d t) : ∃ x,inC x p d t:=by
  have b:=Rat.floor_le (posA p d t / 2);have a:=Rat.lt_floor_add_one (posA p d t / 2);have c:=h (posA p d t / 2).floor;refine ⟨(posA p d t / 2).floor,?_,?_⟩
  · generalize (posA p d t / 2).floor = k at *;rw [Rat.intCast_mul] at *;have e : ((2 : Int) : Rat) = 2:=rfl;rw [e] at *;grind
  · generalize (posA p d t / 2).floor = k at *;rw [Rat.intCast_mul];have e : ((2 : Int) : Rat) = 2:=rfl;rw [e] at *;grind
theorem qsp {lo hi p d : Int} {t : Rat} : inAx lo hi p d t↔((2 * lo : Int) : Rat) < posA p d t∧posA p d t < ((2 * hi : Int) : Rat):=by
  unfold inAx posA;rw [Rat.intCast_sub,Rat.intCast_sub];constructor <;> rintro ⟨a,b⟩ <;> constructor <;> grind
theorem q5i {x lo hi p d : Int} {t : Rat} (h : inC x p d t) : inAx lo hi p d t↔lo≤x∧x < hi:=by
  rw [qsp];obtain ⟨j,g⟩:=h;constructor
  · rintro ⟨f,c⟩;have a : ((2 * lo : Int) : Rat) < ((2 * (x + 1) : Int) : Rat):=by grind
    have b : ((2 * x : Int) : Rat) < ((2 * hi : Int) : Rat):=by grind
    rw [q5h] at a b;omega
  · rintro ⟨f,c⟩;have a : ((2 * lo : Int) : Rat)≤((2 * x : Int) : Rat):=qkn.2 q0;have b : ((2 * (x + 1) : Int) : Rat)≤((2 * hi : Int) : Rat):=qkn.2 q0;constructor <;> grind
def gen (p d : ql) (t : Rat) : Prop:=genA p.X d.X t∧genA p.Y d.Y t∧genA p.Z d.Z t
def rayS (P : Int→Int→Int→Prop) (p d : ql) (t : Rat) : Prop:=∃ x y z,P x y z∧inC x p.X d.X t∧inC y p.Y d.Y t∧inC z p.Z d.Z t
theorem qfl {b : qg} {p d : ql} {t : Rat} : q2o (axB b p d) t↔inAx b.Lo.X b.Hi.X p.X d.X t∧inAx b.Lo.Y b.Hi.Y p.Y d.Y t∧inAx b.Lo.Z b.Hi.Z p.Z d.Z t:=by
  simp [q2o,axB]
theorem qwl {l : List qg} {p d : ql} {t : Rat} (h : gen p d t) : rayS (hasB l) p d t↔∃ b∈l,q2o (axB b p d) t:=by
  obtain ⟨x,c⟩:=qfo h.1;obtain ⟨y,a⟩:=qfo h.2.1;obtain ⟨z,f⟩:=qfo h.2.2;constructor
  · rintro ⟨n,q,o,⟨b,hb,g⟩,j,k,m⟩;refine ⟨b,hb,?_⟩;rw [qfl,q5i j,q5i k,q5i m];exact g
  · rintro ⟨b,hb,g⟩;rw [qfl,q5i c,q5i a,q5i f] at g;exact ⟨x,y,z,⟨b,hb,g⟩,c,a,f⟩
def Yp (G S : Rat→Prop) : Option Rat→Prop
  | none=>∀ t,0 < t→G t→¬ S t
  | some T=>0≤T∧(∀ t,0 < t→G t→S t→T < t)∧∃ e,T < e∧∀ t,T < t→t < e→G t→S t
def qe0 (G : Rat→Prop) : Prop:=∀ a b : Rat,a < b→∃ t,a < t∧t < b∧G t
theorem Yp.congr {G S d : Rat→Prop} {o : Option Rat} (h : ∀ t,0 < t→G t→(S t↔d t)) (f : Yp G S o) : Yp G d o:=by
  cases o with
  | none=>exact fun t c g s=>f t c g ((h t c g).2 s)
  | some T=>
    obtain ⟨l,k,e,j,m⟩:=f;exact ⟨l,fun t c g s=>k t c g ((h t c g).2 s),e,j,fun t a b g=>(h t (by grind) g).1 (m t a b g)⟩
theorem Yp.or {G S j : Rat→Prop} {o h : Option Rat} (f : Yp G S o) (d : Yp G j h) : Yp G (fun t=>S t∨j t) (minO o h):=by
  cases o with
  | none=>
    refine d.congr fun t c g=>?_;have:=f t c g;simp [this]
  | some T=>
    cases h with
    | none=>
      refine f.congr fun t c g=>?_;have:=d t c g;simp [this]
    | some T'=>
      obtain ⟨r,n,e,q,l⟩:=f;obtain ⟨k0,k,p,u,m⟩:=d;refine ⟨by grind,fun t c g s=>?_,?_⟩
      · rcases s with s | s
        · have:=n t c g s;grind
        · have:=k t c g s;grind
      · by_cases v : T≤T'
        · exact ⟨e,by grind,fun t a b g=>.inl (l t (by grind) b g)⟩
        · exact ⟨p,by grind,fun t a b g=>.inr (m t (by grind) b g)⟩
theorem Yp.le {G S d : Rat→Prop} {T c : Rat} (hd : qe0 G) (h : ∀ t,0 < t→G t→S t→d t) (f : Yp G S (some T)) (k : Yp G d (some c)) : c≤T:=by
  obtain ⟨n,r,e,m,l⟩:=f;obtain ⟨k0,j,s,p,q⟩:=k;refine Classical.byContradiction fun o=>?_;obtain ⟨t,a,b,g⟩:=hd T (min e c) (by grind);have:=j t (by grind) g (h t (by grind) g (l t a (by grind) g));grind
theorem Yp.unique {G S : Rat→Prop} (hd : qe0 G) {o d : Option Rat} (f : Yp G S o) (c : Yp G S d) : o = d:=by
  have key : ∀ {T : Rat},Yp G S none→Yp G S (some T)→False:=by
    intro T h ⟨l,m,e,j,k⟩;obtain ⟨t,a,b,g⟩:=hd T e j;exact h t (by grind) g (k t a b g)
  cases o with
  | none=>cases d with
    | none=>rfl
    | some T=>exact (key f c).elim
  | some T=>cases d with
    | none=>exact (key c f).elim
    | some T'=>
      have a:=Yp.le hd (fun t _ _ s=>s) f c;have b:=Yp.le hd (fun t _ _ s=>s) c f;congr 1;grind
theorem qsj {G : Rat→Prop} {l : AxL} (g : ∃ a∈l,a.2.2.2≠0) : Yp G (q2o l) (hitT l):=by
  obtain ⟨h,c⟩:=qff g;have d:=qc7 l;unfold hitT;rw [c];simp only;split
  · rename_i q;exact ⟨d,fun t f _ s=>((qfm c f).1 s).2.1,h,q.2,fun t a b _=>(qfm c (by grind)).2 ⟨q.1,a,b⟩⟩
  · rename_i q;exact fun t f _ s=>q (by have:=(qfm c f).1 s;exact ⟨this.1,by grind⟩)
noncomputable def firstT (l : List qg) (p d : ql) : Option Rat:=l.foldl (fun m b=>minO m (hitT (axB b p d))) none
def nzV (d : ql) : Prop:=d.X≠0∨d.Y≠0∨d.Z≠0
theorem qlp {b : qg} {p d : ql} (h : nzV d) : ∃ a∈axB b p d,a.2.2.2≠0:=by
  rcases h with h | h | h
  · exact ⟨(b.Lo.X,b.Hi.X,p.X,d.X),by simp [axB],h⟩
  · exact ⟨(b.Lo.Y,b.Hi.Y,p.Y,d.Y),by simp [axB],h⟩
  · exact ⟨(b.Lo.Z,b.Hi.Z,p.Z,d.Z),by simp [axB],h⟩
theorem qjn {G : Rat→Prop} {p d : ql} (hd : nzV d) : ∀ (l : List qg) (S : Rat→Prop) (o : Option Rat),Yp G S o→
    Yp G (fun t=>S t∨∃ b∈l,q2o (axB b p d) t) (l.foldl (fun m b=>minO m (hitT (axB b p d))) o)
  | [],S,o,h=>h.congr fun t _ _=>by simp
  | b::l,S,o,h=>by
    rw [List.foldl_cons]
    refine (qjn hd l _ _ (h.or (qsj (qlp hd)))).congr fun t _ _=>?_
    simp only [List.mem_cons,exists_eq_or_imp,or_assoc]
theorem qf2 {l : List qg} {p d : ql} (hd : nzV d) : Yp (gen p d) (rayS (hasB l) p d) (firstT l p d):=by
  refine (qjn hd l (fun _=>False) none (fun t _ _ h=>h)).congr fun t _ g=>?_;rw [qwl g];simp
def fitA (p d : Int) : Prop:=d = 0→p % 2≠0
theorem qf8 {p d : Int} {t : Rat} (c : fitA p d) (hd : -8≤d∧d≤8) (h : ∀ n : Int,1680 * t≠(n : Rat)) : genA p d t:=by
  intro k a;by_cases b : d = 0
  · have : posA p d t = (p : Rat):=by unfold posA;rw [b,show ((0 : Int) : Rat) = 0 from rfl];grind
    rw [this] at a;have a : p = 2 * k:=by exact_mod_cast a
    have:=c b;omega
  · obtain ⟨m,g⟩ : ∃ m : Int,m * d = 840:=by
      have : d = -8∨d = -7∨d = -6∨d = -5∨d = -4∨d = -3∨d = -2∨d = -1∨d = 1∨d = 2∨d = 3∨d = 4∨d = 5∨d = 6∨d = 7∨d = 8:=by omega
      rcases this with e | e | e | e | e | e | e | e | e | e | e | e | e | e | e | e <;> subst e
      · exact ⟨-105,rfl⟩
      · exact ⟨-120,rfl⟩
      · exact ⟨-140,rfl⟩
      · exact ⟨-168,rfl⟩
      · exact ⟨-210,rfl⟩
      · exact ⟨-280,rfl⟩
      · exact ⟨-420,rfl⟩
      · exact ⟨-840,rfl⟩
      · exact ⟨840,rfl⟩
      · exact ⟨420,rfl⟩
      · exact ⟨280,rfl⟩
      · exact ⟨210,rfl⟩
      · exact ⟨168,rfl⟩
      · exact ⟨140,rfl⟩
      · exact ⟨120,rfl⟩
      · exact ⟨105,rfl⟩
    refine h (m * (2 * k - p)) ?_
    have f : (m : Rat) * (d : Rat) = 840:=by
      have : ((m * d : Int) : Rat) = ((840 : Int) : Rat):=by rw [g]
      rw [Rat.intCast_mul] at this;exact this
    unfold posA at a;rw [Rat.intCast_mul,Rat.intCast_sub];have : (m : Rat) * (((2 * k : Int) : Rat) - (p : Rat)) = (m : Rat) * (2 * (d : Rat) * t):=by rw [← a];grind
    rw [this];grind
theorem qu1 (a b : Rat) (h : a < b) : ∃ t,a < t∧t < b∧∀ n : Int,1680 * t≠(n : Rat):=by
  have l:=Rat.floor_le (1680 * a);have g:=Rat.lt_floor_add_one (1680 * a);generalize (1680 * a).floor = k at *;have c : ((k + 1 : Int) : Rat) = (k : Rat) + 1:=by rw [Rat.intCast_add];rfl
  rw [c] at g;refine ⟨(a + min b (((k : Rat) + 1) / 1680)) / 2,by grind,by grind,fun n d=>?_⟩;have f : (k : Rat) < (n : Rat):=by rw [← d];grind
  have j : (n : Rat) < ((k + 1 : Int) : Rat):=by rw [c,← d];grind
  rw [q5h] at f j;omega
def fitV (p d : ql) : Prop:=fitA p.X d.X∧fitA p.Y d.Y∧fitA p.Z d.Z
def dirV (d : ql) : Prop:=(-8≤d.X∧d.X≤8)∧(-8≤d.Y∧d.Y≤8)∧(-8≤d.Z∧d.Z≤8)
theorem qs5 {p d : ql} (c : fitV p d) (hd : dirV d) : qe0 (gen p d):=fun a b h=>by
  obtain ⟨t,j,g,f⟩:=qu1 a b h
  exact ⟨t,j,g,qf8 c.1 hd.1 f,qf8 c.2.1 hd.2.1 f,qf8 c.2.2 hd.2.2 f⟩
def blk (l : List qg) (p d : ql) : Prop:=∃ b∈l,(hitC (axB b p d)).isSome = true
instance (l : List qg) (p d : ql) : Decidable (blk l p d):=inferInstanceAs (Decidable (∃ b∈l,(hitC (axB b p d)).isSome = true))
theorem qjw {α : Type} (g : α→Option Rat) : ∀ (l : List α) (o : Option Rat),(l.foldl (fun m b=>minO m (g b)) o).isSome = true↔o.isSome = true∨∃ b∈l,(g b).isSome = true
  | [],o=>by simp
  | b::l,o=>by
    rw [List.foldl_cons,qjw g l]
    have : (minO o (g b)).isSome = true↔o.isSome = true∨(g b).isSome = true:=by cases o <;> cases g b <;> simp [minO]
    rw [this];simp [or_assoc]
theorem qbg {l : List qg} {p d : ql} : blk l p d↔(firstT l p d).isSome = true:=by
  unfold firstT blk;rw [qjw];have : ∀ b : qg,(hitC (axB b p d)).isSome = (hitT (axB b p d)).isSome:=fun b=>by rw [← (qc3 (l:=axB b p d)).1,Option.isSome_map]
  simp [this]
end Go.Sh
namespace Go.Sh
open Go Go.Am
theorem mulb {x y A B : Int} (g : -A≤x∧x≤A) (c : -B≤y∧y≤B) : -(A * B)≤x * y∧x * y≤A * B:=by
  have d : (x + A) * (B - y) ≥ 0:=Int.mul_nonneg q0 q0;have a : (A - x) * (B + y) ≥ 0:=Int.mul_nonneg q0 q0;have f : (A - x) * (B - y) ≥ 0:=Int.mul_nonneg q0 q0;have b : (A + x) * (B + y) ≥ 0:=Int.mul_nonneg q0 q0;constructor
  · grind
  · grind
theorem qoy {x y A B : Int} (b : -A≤x∧x≤A) (a : -B≤y∧y≤B) (h : A * B≤9000000000000000000) : w64 (x * y) = x * y:=by
  have:=mulb b a;exact Qa q0
def smR (q : Rat) : Prop:=(-20000≤q.num∧q.num≤20000)∧(q.den : Int)≤20000
def smM (q : Rat) : Prop:=(-50000≤q.num∧q.num≤50000)∧(q.den : Int)≤20000
def smW (q : Rat) : Prop:=(-1000000000≤q.num∧q.num≤1000000000)∧(q.den : Int)≤1000000
theorem smR.w {q : Rat} (h : smR q) : smW q:=by unfold smR at h;unfold smW;omega
theorem smM.w {q : Rat} (h : smM q) : smW q:=by unfold smM at h;unfold smW;omega
theorem qvp {a b : Rat} (c : smR a) (hb : smR b) : q8z (ofR a) (ofR b) = some (decide (a < b)):=by
  obtain ⟨d,j⟩:=c;obtain ⟨f,k⟩:=hb;have l:=q2d a;have g:=q2d b;have h:=mulb d (y:=(b.den : Int)) (B:=20000) q0;have p2:=mulb f (y:=(a.den : Int)) (B:=20000) q0;unfold q8z;rw [show (ofR a).Num = a.num from rfl,show (ofR a).Den = (a.den : Int) from rfl,show (ofR b).Num = b.num from rfl,show (ofR b).Den = (b.den : Int) from rfl];rw [Qa (x:=a.num * (b.den : Int)) q0,Qa (x:=b.num * (a.den : Int)) q0];congr 1;exact decide_eq_decide.2 (qt8 a b)
theorem qmn {n : Int} (h : -1000000000000000≤n∧n≤1000000000000000) : q6a n = some (n.natAbs : Int):=by
  unfold q6a;by_cases a : n < 0
  · rw [Qb a,Q0,J0,J0];congr 1;omega
  · rw [Q9 a,Q4,J0];congr 1;omega
theorem qs4 (N : Nat) (a b : Nat) : q69 ((a : Int),(b : Int)) = some (if b = 0 then .inr (a : Int) else .inl ((b : Int),((a % b : Nat) : Int))):=by
  unfold q69 remK;by_cases hb : b = 0
  · rw [qr hb];simp [hb]
  · rw [qs hb,show ((((a : Int),(b : Int)).2) != 0) = true by simp;omega];simp only [Q0];rw [qs q0];simp only [qk,Option.some.injEq,Sum.inl.injEq,Prod.mk.injEq,true_and]
    first
      | (rw [Int.tmod_eq_emod_of_nonneg q0];omega)
      | omega
theorem qwj (a b : Nat) : q9c (a : Int) (b : Int) = some ((Nat.gcd a b : Nat) : Int):=by
  unfold q9c;rw [qrj (f:=q69) (max a b) (fun a b _ _=>qs4 0 a b) b a q0 q0];rfl
theorem qwh {n m : Int} (f : 0 < m) (p : -1000000000≤n∧n≤1000000000) (o : m≤1000000000) : q9b n m = some (ofR (fr n m),0):=by
  have b:=qg7 f p o;obtain ⟨r,l⟩:=ql9 (n:=n) f;have e:=qg8 r;rw [l] at e;have j : (fr n m).num = n / (Int.gcd n m : Int):=congrArg Y3.Num e;have t : ((fr n m).den : Int) = m / (Int.gcd n m : Int):=congrArg Y3.Den e;have v : 0 < Int.gcd n m:=Int.gcd_pos_of_ne_zero_right n q0;unfold q9b;rw [show (m == 0) = false by simp;omega,qmn q0,qmn q0];simp only [Q4,qk];rw [qwj];simp only [qk];have c : (n.natAbs.gcd m.natAbs : Nat) = Int.gcd n m:=rfl;rw [c]
  have q : quoK .u64 (n.natAbs : Int) (Int.gcd n m : Int) = some ((fr n m).num.natAbs : Int):=by
    unfold quoK;rw [qs q0,J0];have hd : (Int.gcd n m : Int) ∣ n:=Int.gcd_dvd_left ..
    have d : (n.natAbs : Int).tdiv (Int.gcd n m : Int) = ((fr n m).num.natAbs : Int):=by
      rw [j,Int.tdiv_eq_ediv_of_nonneg q0,Int.natAbs_ediv_of_dvd hd];rfl
    rw [d];congr 1;omega
  have u : quoK .u64 (m.natAbs : Int) (Int.gcd n m : Int) = some ((fr n m).den : Int):=by
    unfold quoK;rw [qs q0,J0,show (m.natAbs : Int) = m by omega]
    have d : m.tdiv (Int.gcd n m : Int) = ((fr n m).den : Int):=by
      rw [t,Int.tdiv_eq_ediv_of_nonneg q0]
    rw [d];congr 1;omega
  rw [q,qk,u,qk];rw [Q9 q0,Q9 q0];simp only [Q4,qk];rw [Qa (x:=((fr n m).num.natAbs : Int)) q0,Qa (x:=((fr n m).den : Int)) q0]
  have hs : (fr n m).num < 0↔n < 0:=by
    obtain ⟨a,k⟩:=Int.gcd_dvd_left (a:=n) (b:=m)
    have s : n / (Int.gcd n m : Int) = a:=by
      generalize Int.gcd n m = g at *;rw [k];exact Int.mul_ediv_cancel_left a q0
    rw [j,s];generalize Int.gcd n m = g at *;constructor
    · intro h;rw [k];exact Int.mul_neg_of_pos_of_neg q0 h
    · intro h;refine Classical.byContradiction fun y=>?_;have : 0≤(g : Int) * a:=Int.mul_nonneg q0 q0;omega
  unfold ofR;by_cases h : n < 0
  · rw [Qb h,Q9 (by omega : ¬ m < 0)];simp only [show (!(true == false)) = true from rfl,Q0,qk];rw [Qa q0];have:=hs.2 h;congr 3;omega
  · rw [Q9 h,Q9 (by omega : ¬ m < 0)];simp only [show (!(false == false)) = false from rfl,Q4,qk];have : ¬ (fr n m).num < 0:=fun g=>h (hs.1 g);congr 3;omega
end Go.Sh
namespace Go.Sh
open Go Go.Am
theorem qbf {a b : Kx} (c : -100000≤a.num_∧a.num_≤100000) (f : -100000≤a.den_∧a.den_≤100000) (d : -100000≤b.num_∧b.num_≤100000) (g : -100000≤b.den_∧b.den_≤100000) : q3j a b = some (befC (a.num_,a.den_) (b.num_,b.den_)):=by
  unfold q3j befC;rw [qoy c g qw,qoy d f qw]
def axOk (a : Int × Int × Int × Int) : Prop:=(-30≤a.1∧a.1≤30)∧(-30≤a.2.1∧a.2.1≤30)∧(-1100≤a.2.2.1∧a.2.2.1≤1100)∧(-8≤a.2.2.2∧a.2.2.2≤8)
def smP (a : Int × Int) : Prop:=(-1200≤a.1∧a.1≤1200)∧(-16≤a.2∧a.2≤16)
theorem qlo {a : Int × Int × Int × Int} (h : axOk a) : (-1200≤(nfC a).1∧(nfC a).1≤1200)∧(-1200≤(nfC a).2.1∧(nfC a).2.1≤1200)∧-8≤(nfC a).2.2∧(nfC a).2.2≤8:=by
  unfold axOk at h;unfold nfC;split <;> (simp only;omega)
theorem qtn {f : Int × Int} {t : Option (Int × Int)} (a : smP f) (b : ∀ u,t = some u→smP u) : smP (minC f t):=by
  cases t with
  | none=>exact a
  | some u=>
    show smP (if befC f u = true then f else u);split
    · exact a
    · exact b u rfl
theorem q12m {a : Int × Int × Int × Int} {f : Int × Int} {t : Option (Int × Int)} (l : axOk a) (b : smP f) (g : ∀ u,t = some u→smP u) {d : Int × Int} {c : Option (Int × Int)} (h : Ks (some (f,t)) a = some (d,c)) : smP d∧∀ u,c = some u→smP u:=by
  have j:=qlo l;have n : smP ((nfC a).1,2 * (nfC a).2.2):=⟨j.1,by show -16≤2 * (nfC a).2.2∧2 * (nfC a).2.2≤16;omega⟩
  have k : smP ((nfC a).2.1,2 * (nfC a).2.2):=⟨j.2.1,by show -16≤2 * (nfC a).2.2∧2 * (nfC a).2.2≤16;omega⟩
  simp only [Ks] at h;split at h
  · split at h
    · cases h
    · cases h;exact ⟨b,g⟩
  · cases h;refine ⟨?_,fun u m=>?_⟩
    · split
      · exact n
      · exact b
    · cases m;exact qtn k g
def outC (i : Int) (tn td : Int) : Option ((Int × Int) × Option (Int × Int))→(Bool × Int × Int × Int × Int × Int) ⊕ ((Int × Int × Int × Int) ⊕ (Kx × Bool))
  | none=>.inr (.inr (({num_:=0,den_:=0} : Kx),false))
  | some (f,none)=>.inl (true,i + 1,f.1,f.2,tn,td)
  | some (f,some t)=>.inl (false,i + 1,f.1,f.2,t.1,t.2)
theorem qfi {k g h l : Int × Int × Int} {i : Int} {a : Int × Int × Int × Int} (h7 : idxA 3 [k.1,k.2.1,k.2.2] i = some a.2.2.2) (v : idxA 3 [g.1,g.2.1,g.2.2] i = some a.1) (h1 : idxA 3 [h.1,h.2.1,h.2.2] i = some a.2.2.1) (h5 : idxA 3 [l.1,l.2.1,l.2.2] i = some a.2.1)
    (hi : 0≤i∧i < 3) (r : axOk a) {f t : Int × Int} {o : Bool} (s : smP f) (y : smP t) :
    q12 k g h l (o,i,f.1,f.2,t.1,t.2) = some (outC i t.1 t.2 (Ks (some (f,if o = true then none else some t)) a)):=by
  obtain ⟨lo,b,p,d⟩:=a;obtain ⟨fn,fd⟩:=f;obtain ⟨tn,u⟩:=t;have m:=qlo r;unfold axOk at r;unfold smP at s y;simp only at r s y h7 v h1 h5 m;unfold q12;rw [Qb (show i < 3 from hi.2)];simp only [Q0,h7,v,h1,h5,qk];rw [Qa (x:=2 * lo) q0,Qa (x:=2 * lo - p) q0,Qa (x:=2 * b) q0,Qa (x:=2 * b - p) q0,Qa (x:=i + 1) q0];by_cases j : d = 0
  · rw [show (d == 0) = true by simpa using j];simp only [Q0,Ks,j,if_true];by_cases hb : 2 * lo - p ≥ 0
    · rw [Qb hb];simp only [Q0,qk];rw [qr (.inl hb)];rfl
    · rw [Q9 hb];simp only [Q4,qk];by_cases c : 2 * b - p≤0
      · rw [Qb c,qr (.inr c)];rfl
      · rw [Q9 c,qs q0];cases o <;> rfl
  · rw [show (d == 0) = false by simpa using j];simp only [Q4]
    have hs : ((cond (decide (d < 0)) (some (w64 (0 - d),w64 (0 - (2 * b - p)),w64 (0 - (2 * lo - p)))) (some (d,2 * lo - p,2 * b - p))) : Option (Int × Int × Int)) = some ((nfC (lo,b,p,d)).2.2,(nfC (lo,b,p,d)).1,(nfC (lo,b,p,d)).2.1):=by
      unfold nfC;by_cases hd : d < 0
      · rw [Qb hd,qr hd,Q0,Qa q0,Qa q0,Qa q0];simp only [Option.some.injEq,Prod.mk.injEq];omega
      · rw [Q9 hd,qs hd,Q4]
    rw [hs];simp only [Ks,qs j];generalize nfC (lo,b,p,d) = q at m;obtain ⟨n,z,e⟩:=q;simp only at m;simp only [qk];rw [Qa (x:=2 * e) q0,qbf (by simp only;omega) (by simp only;omega) (by simp only;omega) (by simp only;omega)];simp only [qk];have c : ((cond (befC (fn,fd) (n,2 * e)) (some (n,2 * e)) (some (fn,fd))) : Option (Int × Int)) = some (if befC (fn,fd) (n,2 * e) = true then (n,2 * e) else (fn,fd)):=by cases befC (fn,fd) (n,2 * e) <;> rfl
    rw [c];simp only [qk]
    cases o with
    | true=>rfl
    | false=>
      simp only [Q4];rw [qbf (by simp only;omega) (by simp only;omega) (by simp only;omega) (by simp only;omega)];simp only [qk,Bool.false_eq_true,if_false,minC];by_cases hq : befC (z,2 * e) (tn,u) = true
      · rw [hq];rfl
      · rw [show befC (z,2 * e) (tn,u) = false by simpa using hq];rfl
def Y8 (b : qg) : Prop:=((-30≤b.Lo.X∧b.Lo.X≤30)∧(-30≤b.Lo.Y∧b.Lo.Y≤30)∧(-30≤b.Lo.Z∧b.Lo.Z≤30))∧((-30≤b.Hi.X∧b.Hi.X≤30)∧(-30≤b.Hi.Y∧b.Hi.Y≤30)∧(-30≤b.Hi.Z∧b.Hi.Z≤30))
def Zv (p d : ql) : Prop:=((-1100≤p.X∧p.X≤1100)∧(-1100≤p.Y∧p.Y≤1100)∧(-1100≤p.Z∧p.Z≤1100))∧((-8≤d.X∧d.X≤8)∧(-8≤d.Y∧d.Y≤8)∧(-8≤d.Z∧d.Z≤8))
theorem qfh {b : qg} {p d : ql} (hb : Y8 b) (hr : Zv p d) (aj : nzV d) : ∃ t,q83 ({p_:=p,d_:=d} : Yd) b = some (t,(hitC (axB b p d)).isSome)∧∀ u,hitC (axB b p d) = some u→t = {num_:=u.1,den_:=u.2}∧smP u:=by
  obtain ⟨⟨b1,b2,b3⟩,b4,b5,b6⟩:=hb;obtain ⟨⟨r1,r2,r3⟩,r4,r5,r6⟩:=hr;have a1 : axOk (b.Lo.X,b.Hi.X,p.X,d.X):=⟨b1,b4,r1,r4⟩
  have a2 : axOk (b.Lo.Y,b.Hi.Y,p.Y,d.Y):=⟨b2,b5,r2,r5⟩
  have a3 : axOk (b.Lo.Z,b.Hi.Z,p.Z,d.Z):=⟨b3,b6,r3,r6⟩
  unfold q83 q11;simp only [qk];have z : smP (0,0):=⟨qw,qw⟩
  have z1 : smP (0,1):=⟨qw,qw⟩
  have fin : ∀ (o : Bool) (f t : Int × Int),smP f→smP t→q12 (d.X,d.Y,d.Z) (b.Lo.X,b.Lo.Y,b.Lo.Z) (p.X,p.Y,p.Z) (b.Hi.X,b.Hi.Y,b.Hi.Z) (o,3,f.1,f.2,t.1,t.2) = some (.inr (.inl (f.1,f.2,t.1,t.2))):=fun o f t _ _=>rfl
  have st : ∀ (i : Int) (a : Int × Int × Int × Int),(i = 0∧a = (b.Lo.X,b.Hi.X,p.X,d.X))∨(i = 1∧a = (b.Lo.Y,b.Hi.Y,p.Y,d.Y))∨(i = 2∧a = (b.Lo.Z,b.Hi.Z,p.Z,d.Z))→∀ (o : Bool) (f t : Int × Int),smP f→smP t→
      (Ks (some (f,if o = true then none else some t)) a = none∧loop (q12 (d.X,d.Y,d.Z) (b.Lo.X,b.Lo.Y,b.Lo.Z) (p.X,p.Y,p.Z) (b.Hi.X,b.Hi.Y,b.Hi.Z)) (o,i,f.1,f.2,t.1,t.2) = some (.inr (({num_:=0,den_:=0} : Kx),false)))∨
      ∃ (o' : Bool) (g c : Int × Int),Ks (some (f,if o = true then none else some t)) a = some (g,if o' = true then none else some c)∧smP g∧smP c∧loop (q12 (d.X,d.Y,d.Z) (b.Lo.X,b.Lo.Y,b.Lo.Z) (p.X,p.Y,p.Z) (b.Hi.X,b.Hi.Y,b.Hi.Z)) (o,i,f.1,f.2,t.1,t.2) =
        loop (q12 (d.X,d.Y,d.Z) (b.Lo.X,b.Lo.Y,b.Lo.Z) (p.X,p.Y,p.Z) (b.Hi.X,b.Hi.Y,b.Hi.Z)) (o',i + 1,g.1,g.2,c.1,c.2):=by
    intro i a s o f t l r
    have j : q12 (d.X,d.Y,d.Z) (b.Lo.X,b.Lo.Y,b.Lo.Z) (p.X,p.Y,p.Z) (b.Hi.X,b.Hi.Y,b.Hi.Z) (o,i,f.1,f.2,t.1,t.2) = some (outC i t.1 t.2 (Ks (some (f,if o = true then none else some t)) a)):=by
      rcases s with ⟨rfl,rfl⟩ | ⟨rfl,rfl⟩ | ⟨rfl,rfl⟩
      · exact qfi rfl rfl rfl rfl qw a1 l r
      · exact qfi rfl rfl rfl rfl qw a2 l r
      · exact qfi rfl rfl rfl rfl qw a3 l r
    have af : axOk a:=by rcases s with ⟨_,rfl⟩ | ⟨_,rfl⟩ | ⟨_,rfl⟩ <;> assumption
    have ad : ∀ u,(if o = true then none else some t) = some u→smP u:=by
      intro u n;by_cases ho : o = true
      · rw [qr ho] at n;cases n
      · rw [qs ho] at n;cases n;exact r
    have ac : ∀ g c,Ks (some (f,if o = true then none else some t)) a = some (g,c)→smP g∧∀ u,c = some u→smP u:=fun g c h=>q12m af l ad h
    cases hs : Ks (some (f,if o = true then none else some t)) a with
    | none=>rw [hs] at j;exact .inl ⟨rfl,Ke j⟩
    | some q=>
      obtain ⟨g,c⟩:=q;rw [hs] at j;have h2:=ac g c hs
      cases c with
      | none=>exact .inr ⟨true,g,t,rfl,h2.1,r,Kq j⟩
      | some c=>exact .inr ⟨false,g,c,rfl,h2.1,h2.2 c rfl,Kq j⟩
  have hC : hitC (axB b p d) = match Ks (Ks (Ks (some ((0,1),none)) (b.Lo.X,b.Hi.X,p.X,d.X)) (b.Lo.Y,b.Hi.Y,p.Y,d.Y)) (b.Lo.Z,b.Hi.Z,p.Z,d.Z) with
      | some (f,some t)=>if befC f t = true then some f else none
      | _=>none:=rfl
  rw [hC];have nn : ∀ a,Ks none a = none:=fun a=>rfl;rcases st 0 _ (.inl ⟨rfl,rfl⟩) true (0,1) (0,0) z1 z with ⟨v,l1⟩ | ⟨o1,f1,t1,v,s1,u1,l1⟩
  · rw [l1,show Ks (some ((0,1),none)) (b.Lo.X,b.Hi.X,p.X,d.X) = none from v,nn,nn];exact ⟨_,rfl,qe⟩
  rw [l1,show Ks (some ((0,1),none)) (b.Lo.X,b.Hi.X,p.X,d.X) = _ from v];rcases st 1 _ (.inr (.inl ⟨rfl,rfl⟩)) o1 f1 t1 s1 u1 with ⟨y,l2⟩ | ⟨o2,f2,t2,y,s2,u2,l2⟩
  · rw [show (0 : Int) + 1 = 1 from rfl,l2,y,nn];exact ⟨_,rfl,qe⟩
  rw [show (0 : Int) + 1 = 1 from rfl,l2,y];rcases st 2 _ (.inr (.inr ⟨rfl,rfl⟩)) o2 f2 t2 s2 u2 with ⟨e3,l3⟩ | ⟨o3,k,m,e3,s3,u3,l3⟩
  · rw [show (1 : Int) + 1 = 2 from rfl,l3,e3];exact ⟨_,rfl,qe⟩
  rw [show (1 : Int) + 1 = 2 from rfl,l3,e3,show (2 : Int) + 1 = 3 from rfl,Ke (fin o3 k m s3 u3)];simp only [qk];obtain ⟨⟨c1,c2⟩,c3⟩:=s3;obtain ⟨⟨c4,c5⟩,c6⟩:=u3;rw [qbf (by simp only;omega) (by simp only;omega) (by simp only;omega) (by simp only;omega)];simp only [qk];have ai : ∀ (x : Option ((Int × Int) × Option (Int × Int))) (t : Int × Int),x = some (k,some t)→(match x with | some (f,some t)=>if befC f t = true then some f else none | _=>none) = if befC k t = true then some k else none:=fun x t h=>by rw [h]
  cases o3 with
  | true=>
    exfalso;obtain ⟨h,hh⟩:=qff (qlp (b:=b) (p:=p) aj);have hv : (0 : Rat)≤valC (0,1):=by unfold valC fr;grind
    have l : (axB b p d).foldl Ks (some ((0,1),none)) = some (k,none):=by
      show Ks (Ks (Ks (some ((0,1),none)) (b.Lo.X,b.Hi.X,p.X,d.X)) (b.Lo.Y,b.Hi.Y,p.Y,d.Y)) (b.Lo.Z,b.Hi.Z,p.Z,d.Z) = _;rw [show Ks (some ((0,1),none)) (b.Lo.X,b.Hi.X,p.X,d.X) = _ from v,y,e3];rfl
    rcases qbv (axB b p d) (0,1) none qw qe hv with ⟨q,_⟩ | ⟨g,c,q1,_,_,_,_,q2⟩
    · rw [l] at q;cases q
    · rw [l] at q1;cases q1;rw [hh] at q2;cases q2
  | false=>
    rw [ai _ m qe];by_cases hq : befC k m = true
    · rw [qr hq];refine ⟨_,by rw [show befC (k.1,k.2) (m.1,m.2) = true from hq];rfl,fun u n=>?_⟩;cases n;exact ⟨rfl,⟨⟨c1,c2⟩,c3⟩⟩
    · rw [qs hq];refine ⟨_,by rw [show befC (k.1,k.2) (m.1,m.2) = false by simpa using hq];rfl,by simp⟩
end Go.Sh
namespace Go.Sh
open Go Go.Am
theorem qk1 {m : Int} {q : Rat} {a : Int} : (a : Rat) < (m : Rat) * q↔a * (q.den : Int) < m * q.num:=by
  have hd : (0 : Rat) < ((q.den : Int) : Rat):=by exact_mod_cast q2d q
  have e : q * ((q.den : Int) : Rat) = (q.num : Rat):=by
    have:=qry (n:=q.num) (q2d q);rw [qbw] at this;exact this
  rw [← q5h,Rat.intCast_mul,Rat.intCast_mul,← e];constructor
  · intro h;have : (a : Rat) * ((q.den : Int) : Rat) < (m : Rat) * q * ((q.den : Int) : Rat):=Rat.mul_lt_mul_of_pos_right h hd;grind
  · intro h;refine Rat.not_le.1 fun g=>?_;have : (m : Rat) * q * ((q.den : Int) : Rat)≤(a : Rat) * ((q.den : Int) : Rat):=Rat.mul_le_mul_of_nonneg_right g (Rat.le_of_lt hd);grind
theorem qrx {m : Int} {q : Rat} {a : Int} : (m : Rat) * q < (a : Rat)↔m * q.num < a * (q.den : Int):=by
  have h:=qk1 (m:=-m) (q:=q) (a:=-a);rw [Rat.intCast_neg,Rat.intCast_neg,Int.neg_mul,Int.neg_mul] at h;constructor
  · intro g;have:=h.1 (by grind);omega
  · intro g;have:=h.2 q0;grind
theorem qso {lo hi p d : Int} {q : Rat} : inAx lo hi p d q↔2 * lo * (q.den : Int) < p * (q.den : Int) + 2 * d * q.num∧p * (q.den : Int) + 2 * d * q.num < 2 * hi * (q.den : Int):=by
  unfold inAx;have e : 2 * (d : Rat) * q = ((2 * d : Int) : Rat) * q:=by rw [Rat.intCast_mul];rfl
  rw [e,qk1,qrx,Int.sub_mul,Int.sub_mul];omega
instance {lo hi p d : Int} {q : Rat} : Decidable (inAx lo hi p d q):=decidable_of_iff _ qso.symm
instance {b : qg} {p d : ql} {t : Rat} : Decidable (q2o (axB b p d) t):=decidable_of_iff _ qfl.symm
end Go.Sh
namespace Go.Sh
open Go Go.Am
theorem qs0 {n m : Int} (c : m≠0) (b : -1200≤n∧n≤1200) (a : -16≤m∧m≤16) : smR (fr n m)∧((-1200≤(fr n m).num∧(fr n m).num≤1200)∧((fr n m).den : Int)≤16):=by
  by_cases h : 0 < m
  · have:=qg7 h b a.2;unfold smR;omega
  · rw [← qrz];have:=qg7 (n:=-n) (m:=-m) (N:=1200) (M:=16) q0 q0 q0;unfold smR;omega
structure TL (P : List Rat) (C : List Rat) : Prop where
  so : ((0 : Rat)::P).Pairwise (·≤·)
  mem : ∀ x,x∈P↔x∈C∧0 < x
  sm : ∀ x∈P,smR x∧((-1200≤x.num∧x.num≤1200)∧(x.den : Int)≤16)
  len : P.length≤C.length
end Go.Sh
namespace Go.Sh
open Go Go.Am
theorem qfu {α β : Type} {f : α→Option (α ⊕ β)} (st : Nat→α) (n : Nat) (ok : Nat→Prop) (b e : β)
    (step : ∀ k,k < n→(∀ j,j≤k→ok j)→f (st k) = some (.inl (st (k + 1))))
    (bad : ∀ k,k < n→(∀ j,j < k→ok j)→¬ ok k→f (st k) = some (.inr e))
    (done : (∀ j,j < n→ok j)→f (st n) = some (.inr b)) :
    ((∀ j,j < n→ok j)∧loop f (st 0) = some b)∨(∃ j,j < n∧¬ ok j∧loop f (st 0) = some e):=by
  by_cases h : ∀ j,j < n→ok j
  · exact .inl ⟨h,Zi st n b (fun k c=>step k c fun j d=>h j q0) (done h) (Nat.zero_le _)⟩
  · refine .inr ?_
    have g : ∃ k,(k < n∧¬ ok k)∧∀ j,j < k→ok j:=by
      have : ∃ k,k < n∧¬ ok k:=by
        refine Classical.byContradiction fun o=>h fun k c=>?_;exact Classical.byContradiction fun h=>o ⟨k,c,h⟩
      obtain ⟨k,c⟩:=this
      induction k using Nat.strongRecOn with
      | _ k ih=>
        by_cases d : ∃ j,j < k∧(j < n∧¬ ok j)
        · obtain ⟨j,l,g⟩:=d;exact ih j l g
        · exact ⟨k,c,fun j l=>Classical.byContradiction fun h=>d ⟨j,l,q0,h⟩⟩
    obtain ⟨K,⟨m,hb⟩,a⟩:=g;exact ⟨K,m,hb,Zi st K e (fun k c=>step k q0 fun j d=>a j q0) (bad K m a hb) (Nat.zero_le _)⟩
theorem qh6 (xs : List Int) (h : xs.length≤1000000) :
    ((U2 xs).bind fun c=>(K2 c.length xs.length).bind fun _=>(Uy c).bind fun b=>(K2 b.2.length c.length).bind fun _=>(q14 b.2.length b.1).bind fun _=>some ((b.2.drop b.1.1).take b.1.2)) = some (Qs xs):=by
  obtain ⟨ys,k,g,m⟩:=qnx xs h;have f : ys.length = xs.length:=g.length_eq;obtain ⟨w,a,c1,c2,c3,c4⟩:=qir m q0;obtain ⟨_,j,_⟩:=J6 h
  have d : a.take w = Qs xs:=by
    refine qny (l:=xs) ⟨c4.1,fun x=>?_⟩ j;rw [c4.2 x];exact g.mem_iff
  simp only [qk,k,K2,f,if_true,c1,c2,q14];rw [qr q0];simp only [qk,List.drop_zero,d]
theorem qp4 (l : List qi) (o : List Int) (g : l.length≤400) (d : o.length≤10000) : loop (Zx l) (0,o) = some (o ++ xsOf l):=
  Js l q0 (fun r=>[r.X0,r.X1]) o (fun o=>o) (Zx l) (fun k a c b=>by
    have f : c.length = o.length + 2 * k:=by
      rw [b,List.length_append];have:=Jl (l.take k);rw [List.length_take,Nat.min_eq_left q0] at this;unfold xsOf at this;omega
    simp only [Zx,dlt a,Q0,Qz a,qk,w64s a q0]
    rw [Y7 (by simp;omega)]
    rfl) (fun o=>by simp only [Zx,dnl,Q4])
theorem qwv (l : List qi) (d : l.length≤1000000) : q9k l (fun x0=>q2y x0) = some (decide (¬ ∀ r∈l,vR r)):=by
  have hs : ∀ (k : Nat) (h : k < l.length),q4k l (fun x0=>q2y x0) (k : Int) = some (if (fun r=>!decide (vR r)) l[k] = true then .inr (.inr (k : Int)) else .inl ((k + 1 : Nat) : Int)):=by
    intro k h;simp only [q4k,dlt h,Q0,Qz h,qk,w64s h d,q2y,qov];by_cases c : vR l[k] <;> simp [c]
  have hd : q4k l (fun x0=>q2y x0) (l.length : Int) = some (.inr (.inl ())):=by simp only [q4k,dnl,Q4]
  unfold q9k qd9;rcases Ui l (fun r=>!decide (vR r)) (fun k _=>(k : Int)) () _ hs hd with ⟨g,a⟩ | ⟨k,b,j,_,a⟩
  · rw [a];have : ∀ r∈l,vR r:=fun r f=>by simpa using g r f
    simp [];omega
  · rw [a];have : ¬ ∀ r∈l,vR r:=fun h=>by simp [h _ (Yf b)] at j
    simp only [qk];rw [Qb this,Qb q0]
theorem qmr (l : List qi) : q1s l = some (mkR l):=by
  unfold q1s mkR;by_cases b : 400 < l.length
  · rw [Qb (by omega : (l.length : Int) > 400),Q0,qr b]
  rw [Q9 (by omega : ¬ (l.length : Int) > 400),Q4,qs b,qwv l q0,qk];by_cases a : ∀ r∈l,vR r
  · rw [Q9 (fun h=>h a),Q4,qlb l q0 a,qr a];rfl
  · rw [Qb a,Q0,qs a]
theorem qws (p q : List qi) : q9e p q = some (if Yj p≠0 then Yj p else Yj q):=by
  unfold q9e;simp only [qwo,qk];by_cases h : Yj p = 0
  · simp [h]
  · have : (Yj p != 0) = true:=by simpa using h
    simp [h,this]
theorem rj1 : qcv = Zx:=rfl
theorem rj2 : qcw = Zx:=rfl
theorem rj4 : qcx = Uc:=rfl
theorem rj5 : qcy = Uc:=rfl
theorem qih {p : List qi} (h : Yj p = 0) (x : Int) : Yq (covS p x) = 0∧Good (covS p x):=by
  obtain ⟨d,c,b⟩:=q8d.1 h;have a : Good (covS p x):=⟨qiz c x,(b.cov x).2⟩
  have:=Uh p x;refine ⟨?_,a⟩;unfold Yq;rw [qs q0,qr a]
theorem qlx (kind : Int) {p q : List qi} (hp : Yj p = 0) (hq : Yj q = 0) (x : Int) : opS kind (covS p x) (covS q x) = if 400 < (secJ kind p q x).length then ([],4) else (secJ kind p q x,0):=by
  unfold opS;rw [qs (by simp [(qih hp x).1]),qs (by simp [(qih hq x).1])];rfl
theorem qwx (kind : Int) (f : List qj→List qj→Option (List qj × Int)) (hf : ∀ a b,f a b = some (opS kind a b)) (p q : List qi) : q9f p q f = some (jR kind p q):=by
  unfold q9f jR;rw [qws,qk];by_cases hp : ¬ Yj p = 0
  · rw [qr hp,qr hp];have : (Yj p != 0) = true:=by simpa using hp
    rw [this,Q0]
  replace hp:=Classical.not_not.1 hp;by_cases hq : ¬ Yj q = 0
  · rw [qs (by simp [hp]),qs (by simp [hp]),qr hq];have : (Yj q != 0) = true:=by simpa using hq
    rw [this,Q0]
  replace hq:=Classical.not_not.1 hq;rw [qs (by simp [hp]),qs (by simp [hp]),qs (by simp [hq]),hq];obtain ⟨lp,vp,cp⟩:=q8d.1 hp;obtain ⟨lq,vq,cq⟩:=q8d.1 hq;have ar:=Jl p;have am:=Jl q;rw [show ((0 : Int) != 0) = false from rfl,Q4];simp only [show idx [p,q] 0 = some p from rfl,show idx [p,q] 1 = some q from rfl,qk,rj1,rj2,qp4 p [] lp qe,List.nil_append,qp4 q (xsOf p) lq q0];rw [qh6 _ (by simp;omega)];simp only [qk];obtain ⟨_,ad,d⟩:=J6 (l:=xsOf p ++ xsOf q) (by simp;omega);have d : (Qs (xsOf p ++ xsOf q)).length≤1600:=by simp at d;omega
  have n : ∀ x,(secJ kind p q x).length≤(mrgR kind p q).length:=fun x=>qyr kind q0 x;have ai : mrgR kind p q = (Qy putR Qv (Y6 (Qs (xsOf p ++ xsOf q)) (secJ kind p q))).flat putR:=rfl;rw [ai] at n ⊢;generalize Qs (xsOf p ++ xsOf q) = xs at ad d n ⊢;generalize aa : Y6 xs (secJ kind p q) = steps at n ⊢;have ap : steps.length = xs.length - 1:=by rw [← aa];exact q7u _ _
  have v : ∀ k (m : k < steps.length),steps[k] = (xs[k]'(q0),xs[k + 1]'(q0),secJ kind p q (xs[k]'(q0))):=fun k m=>by subst aa;exact q7t m q0
  have ah : ∀ k,k≤steps.length→(∀ j,j < k→∀ t,steps[j]? = some t→t.2.2.length≤400)→((Qy putR Qv (steps.take k)).flat putR).length≤1600 * 400:=fun k m r=>by
    have h1:=qbu putR (s0:=Qv) (M:=400) (steps:=steps.take k) (fun t u=>by
      obtain ⟨i,hi,rfl⟩:=List.getElem_of_mem u;rw [List.length_take] at hi;rw [List.getElem_take]
      exact r i q0 _ (List.getElem?_eq_getElem q0))
    have y : (steps.take k).length≤1600:=by rw [List.length_take];omega
    have h3 : (Qv.flat putR : List qi).length = 0:=rfl;have z : (steps.take k).length * 400≤1600 * 400:=Nat.mul_le_mul_right _ y;omega
  have o : ∀ x,loop (Uc p x) (0,[]) = some (covS p x):=fun x=>qfw p lp x;have s : ∀ x,loop (Uc q x) (0,[]) = some (covS q x):=fun x=>qfw q lq x
  have main:=qfu (f:=q4j xs p q f) (fun k=>(((k + 1 : Nat) : Int),(Qy putR Qv (steps.take k)).sec,((Qy putR Qv (steps.take k)).done.length : Int),(Qy putR Qv (steps.take k)).hi,(Qy putR Qv (steps.take k)).flat putR))
    steps.length (fun j=>∀ t,steps[j]? = some t→t.2.2.length≤400) (.inl ((Qy putR Qv steps).sec,((Qy putR Qv steps).done.length : Int),(Qy putR Qv steps).hi,(Qy putR Qv steps).flat putR)) (.inr ([],4))
    (fun k m r=>by
      have c : k + 1 < xs.length:=by omega
      have af : k < xs.length:=by omega
      have i1 : idx xs (w64 (((k + 1 : Nat) : Int) - 1)) = some xs[k]:=by rw [Qa q0];exact Jb q0 q0
      have hc:=r k (Nat.le_refl _) _ (List.getElem?_eq_getElem m);have hm:=ah k q0 fun j ao=>r j q0;rw [q3t putR m,v k m] at *;simp only at hc;have hb:=qi6 (Qy putR Qv (steps.take k)) xs[k] xs[k + 1] (secJ kind p q xs[k]) q0;have ho : f (covS p xs[k]) (covS q xs[k]) = some (secJ kind p q xs[k],0):=by rw [hf,qlx kind hp hq,qs q0]
      simp only [q4j,dlt c,Q0,i1,Qz c,qk,show idx [p,q] 0 = some p from rfl,show idx [p,q] 1 = some q from rfl,rj4,rj5,o,s,ho,show ((0 : Int) != 0) = false from rfl,Q4,hb]
      rw [w64s c q0])
    (fun k m r g=>by
      have c : k + 1 < xs.length:=by omega
      have af : k < xs.length:=by omega
      have i1 : idx xs (w64 (((k + 1 : Nat) : Int) - 1)) = some xs[k]:=by rw [Qa q0];exact Jb q0 q0
      have hc : 400 < (secJ kind p q xs[k]).length:=by
        refine Nat.lt_of_not_le fun h=>g fun t u=>?_;rw [List.getElem?_eq_getElem m,v k m] at u;cases u;exact h
      have ho : f (covS p xs[k]) (covS q xs[k]) = some ([],4):=by rw [hf,qlx kind hp hq,qr hc]
      simp only [q4j,dlt c,Q0,i1,Qz c,qk,show idx [p,q] 0 = some p from rfl,show idx [p,q] 1 = some q from rfl,rj4,rj5,o,s,ho,show ((4 : Int) != 0) = true from rfl,Q0])
    (fun _=>by
      have : decide (((steps.length + 1 : Nat) : Int) < (xs.length : Int)) = false:=Q9 q0
      simp only [List.take_length,q4j,this,Q4])
  have ag : ((((0 + 1 : Nat) : Int),(Qy putR Qv (steps.take 0)).sec,((Qy putR Qv (steps.take 0)).done.length : Int),(Qy putR Qv (steps.take 0)).hi,(Qy putR Qv (steps.take 0)).flat putR) : Int × List qj × Int × Int × List qi) = (1,[],0,0,[]):=rfl;rw [ag] at main;rcases main with ⟨_,y⟩ | ⟨j,r,g,y⟩
  · rw [y];simp only [qk];by_cases z : 400 < ((Qy putR Qv steps).flat putR).length
    · rw [Qb (by omega : (((Qy putR Qv steps).flat putR).length : Int) > 400),qr z];rfl
    · rw [Q9 (by omega : ¬ (((Qy putR Qv steps).flat putR).length : Int) > 400),qs z];rfl
  · rw [y];have an : j < xs.length:=by omega
    have h5 : 400 < (secJ kind p q xs[j]).length:=by
      refine Nat.lt_of_not_le fun h=>g fun t u=>?_;rw [List.getElem?_eq_getElem r,v j r] at u;cases u;exact h
    have h6:=n xs[j];have z : 400 < ((Qy putR Qv steps).flat putR).length:=Nat.lt_of_lt_of_le h5 h6;rw [qr z];rfl
theorem qwq (p q : List qi) : q6d p q = some (jR 2 p q):=by
  unfold q6d;rw [qwx 2 _ (fun a b=>q139 a b)];rfl
end Go.Sh
namespace Go.Sh
open Go Go.Am
theorem q121 (v : ql) : q7q v = some (decide ((-1000000≤v.X∧-1000000≤v.Y∧-1000000≤v.Z)∧v.X≤1000000∧v.Y≤1000000∧v.Z≤1000000)):=by
  unfold q7q;by_cases a : min (min v.X v.Y) v.Z ≥ -1000000
  · by_cases b : max (max v.X v.Y) v.Z≤1000000
    · rw [Qb a,Qb b,Q0,qk];congr 1;exact (Qb q0).symm
    · rw [Qb a,Q9 b,Q0,qk];congr 1;exact (Q9 q0).symm
  · rw [Q9 a,Q4,qk];congr 1;exact (Q9 q0).symm
theorem q123 (b : qg) : qai b = some (decide (vB b)):=by
  unfold qai vB;simp only [q121,qk];by_cases a : b.Lo.X < b.Hi.X
  · by_cases c : b.Lo.Y < b.Hi.Y
    · by_cases d : b.Lo.Z < b.Hi.Z
      · simp only [a,c,d,decide_true,Q0,qk,true_and];by_cases f : (-1000000≤b.Lo.X∧-1000000≤b.Lo.Y∧-1000000≤b.Lo.Z)∧b.Lo.X≤1000000∧b.Lo.Y≤1000000∧b.Lo.Z≤1000000
        · rw [Qb f];simp only [Q0,qk];congr 1;exact decide_eq_decide.2 q0
        · rw [Q9 f];simp only [Q4,qk];congr 1;exact (Q9 q0).symm
      · simp [a,c,d]
    · simp [a,c]
  · simp [a]
theorem qw1 (v : ql) (n : Int) : q61 v n = some (decide ((n≤v.X∧n≤v.Y∧n≤v.Z)∧v.X≤1000000∧v.Y≤1000000∧v.Z≤1000000)):=by
  unfold q61
  by_cases d : v.X ≥ n <;> by_cases b : v.Y ≥ n <;> by_cases g : v.Z ≥ n <;> by_cases c : v.X≤1000000 <;> by_cases f : v.Y≤1000000 <;> by_cases a : v.Z≤1000000 <;>
    simp [d,b,g,c,f,a] <;> omega
theorem qw9 (b : qg) : q97 b = some (decide (vB b)):=by
  unfold q97 vB;simp only [qw1,qk];by_cases a : (-1000000≤b.Lo.X∧-1000000≤b.Lo.Y∧-1000000≤b.Lo.Z)∧b.Lo.X≤1000000∧b.Lo.Y≤1000000∧b.Lo.Z≤1000000
  · rw [Qb a];simp only [Q0,qk];by_cases c : (-1000000≤b.Hi.X∧-1000000≤b.Hi.Y∧-1000000≤b.Hi.Z)∧b.Hi.X≤1000000∧b.Hi.Y≤1000000∧b.Hi.Z≤1000000
    · rw [Qb c];by_cases f : b.Lo.X < b.Hi.X <;> by_cases d : b.Lo.Y < b.Hi.Y <;> by_cases g : b.Lo.Z < b.Hi.Z <;> simp [f,d,g] <;> omega
    · rw [Q9 c];simp only [Q4,qk];congr 1;exact (Q9 q0).symm
  · rw [Q9 a];simp only [Q4,qk];congr 1;exact (Q9 q0).symm
theorem q120 (l : List qg) (d : l.length≤1000000) : Ud l (fun x0=>q38 x0) = some (decide (¬ ∀ r∈l,vB r)):=by
  have hs : ∀ (k : Nat) (h : k < l.length),Jh l (fun x0=>q38 x0) (k : Int) = some (if (fun r=>!decide (vB r)) l[k] = true then .inr (.inr (k : Int)) else .inl ((k + 1 : Nat) : Int)):=by
    intro k h;simp only [Jh,dlt h,Q0,Qz h,qk,w64s h d,q38,q123];by_cases c : vB l[k] <;> simp [c]
  have hd : Jh l (fun x0=>q38 x0) (l.length : Int) = some (.inr (.inl ())):=by simp only [Jh,dnl,Q4]
  unfold Ud q6q;rcases Ui l (fun r=>!decide (vB r)) (fun k _=>(k : Int)) () _ hs hd with ⟨g,a⟩ | ⟨k,b,j,_,a⟩
  · rw [a];have : ∀ r∈l,vB r:=fun r f=>by simpa using g r f
    simp [];omega
  · rw [a];have : ¬ ∀ r∈l,vB r:=fun h=>by simp [h _ (Yf b)] at j
    simp only [qk];rw [Qb this,Qb q0]
theorem qnt (s : Mg qi qg) (a b : Int) (c : List qi) (hl : (s.flat putB).length + c.length≤1000000) :
    q7n (s.flat putB) s.sec (s.done.length : Int) s.hi a b c = some ((addM putB s a b c).sec,((addM putB s a b c).done.length : Int),(addM putB s a b c).hi,(addM putB s a b c).flat putB):=by
  have x : (s.flat putB).length = s.done.length + s.sec.length:=by simp [Mg.flat]
  have d : s.sec.length≤1000000:=by omega
  unfold q7n;rcases U4 putB s a b c with ⟨p,r,y,m⟩ | ⟨p,m⟩
  · have hb : decide ((c.length : Int) > 0) = true:=Qb (by have:=List.length_pos_iff.2 p;omega);have z : (s.hi == a) = true:=by simpa using y
    rw [r] at hb;rw [m,r];simp only [hb,Q0,z,qk,qev _ _ d,decide_true]
    have:=q5b (fun v : qg=>({Lo:=v.Lo,Hi:=({X:=v.Hi.X,Y:=v.Hi.Y,Z:=b} : ql)} : qg)) s.done (s.sec.map (putB s.lo s.hi)) (by simp;omega) (q7o b) (fun k o f u=>by
      have l : (s.done ++ s.sec.map (putB s.lo s.hi)).length = (s.flat putB).length:=rfl
      simp only [q7o,dlt f,Q0,Qz f,qk,w64s f q0,Int.toNat_natCast]) (fun o=>by simp only [q7o,dnl,Q4])
    rw [show s.flat putB = s.done ++ s.sec.map (putB s.lo s.hi) from rfl,this];simp only [qk,Mg.flat,List.map_map];rfl
  · rw [m]
    have hc : ((cond (decide ((c.length : Int) > 0)) (some (s.hi == a)) (some false)).bind fun g=>(cond g ((q6o s.sec c).bind fun j=>some j) (some false))) = some false:=by
      by_cases l : c = []
      · subst l;simp
      · have hb : decide ((c.length : Int) > 0) = true:=Qb (by have:=List.length_pos_iff.2 l;omega);simp only [hb,Q0,qk,qev _ _ d];by_cases q : s.hi = a
        · have t : s.sec≠c:=fun h=>p ⟨l,h.symm,q⟩;simp [q,t]
        · have : (s.hi == a) = false:=by simpa using q
          simp [this]
    have n:=q5n c (putB a b) (s.flat putB) (fun o=>(c,((s.flat putB).length : Int),b,o)) (q7p c a b (s.flat putB)) (fun k f o u=>by
      simp only [q7p,dlt f,Q0,Qz f,qk,w64s f q0];rw [Y7 (by simp;omega)]
      rfl) (fun o=>by simp only [q7p,dnl,Q4])
    rw [← Option.bind_assoc,hc];simp only [qk,Q4,n];simp [Mg.flat]
theorem qhn (l : List qg) (o : List Int) (g : l.length≤400) (d : o.length≤10000) : loop (q1y l) (0,o) = some (o ++ zsOf l):=
  Js l q0 (fun r=>[r.Lo.Z,r.Hi.Z]) o (fun o=>o) (q1y l) (fun k a c b=>by
    have f : c.length = o.length + 2 * k:=by
      rw [b,List.length_append];have:=Z9 (l.take k);rw [List.length_take,Nat.min_eq_left q0] at this;unfold zsOf at this;omega
    simp only [q1y,dlt a,Q0,Qz a,qk,w64s a q0]
    rw [Y7 (by simp;omega)]
    rfl) (fun o=>by simp only [q1y,dnl,Q4])
theorem q57 (l : List qg) (g : l.length≤400) (x : Int) : loop (q1z l x) (0,[]) = some (atB l x):=by
  have:=Js l q0 (fun r=>if covB x r = true then [Zw r] else []) [] (fun o=>o) (q1z l x) (fun k a o d=>by
    have f : o.length≤k:=by rw [d,List.nil_append];have:=J3 (l.take k) x;rw [List.length_take,Nat.min_eq_left q0] at this;exact this
    simp only [q1z,dlt a,Q0,Qz a,qk,w64s a q0];by_cases b : l[k].Lo.Z≤x
    · by_cases c : x < l[k].Hi.Z
      · simp only [b,c,decide_true,Q0,qk,covB,Bool.and_self,if_true];rw [Y7 (by simp;omega)];rfl
      · simp only [b,c,decide_true,decide_false,Q0,Q4,qk,covB,Bool.and_false,if_false,Bool.false_eq_true,List.append_nil]
    · simp only [b,decide_false,Q4,qk,covB,Bool.false_and,if_false,Bool.false_eq_true,List.append_nil]) (fun o=>by simp only [q1z,dnl,Q4])
  rw [List.nil_append] at this;exact this
theorem qnh {kind : Int} {p q : List qg} {xs : List Int} (ac : Qs (zsOf p ++ zsOf q) = xs) (h : p.length + q.length≤800) (F : Int × List qi × Int × Int × List qg→Option ((Int × List qi × Int × Int × List qg) ⊕ ((List qi × Int × Int × List qg) ⊕ (List qg × Int))))
    (ag : ∀ (a b : Int) (k : Nat) (s : Mg qi qg),(s.flat putB).length + 400≤1000000→(h1 : k + 1 < xs.length)→a = xs[k]'(q0)→b = xs[k + 1]'h1→(secB kind p q a).length≤400→
      F (((k + 1 : Nat) : Int),s.sec,(s.done.length : Int),s.hi,s.flat putB) = some (.inl (((k + 1 + 1 : Nat) : Int),(addM putB s a b (secB kind p q a)).sec,((addM putB s a b (secB kind p q a)).done.length : Int),(addM putB s a b (secB kind p q a)).hi,(addM putB s a b (secB kind p q a)).flat putB)))
    (z : ∀ (a : Int) (k : Nat) (s : Mg qi qg),(h1 : k + 1 < xs.length)→a = xs[k]'(q0)→400 < (secB kind p q a).length→
      F (((k + 1 : Nat) : Int),s.sec,(s.done.length : Int),s.hi,s.flat putB) = some (.inr (.inr ([],4))))
    (y : ∀ (k : Nat) (s : Mg qi qg),xs.length≤k + 1→F (((k + 1 : Nat) : Int),s.sec,(s.done.length : Int),s.hi,s.flat putB) = some (.inr (.inl (s.sec,(s.done.length : Int),s.hi,s.flat putB)))) :
    (∃ a b c,loop F (1,[],0,0,[]) = some (.inl (a,b,c,mrgB kind p q)))∨(400 < (mrgB kind p q).length∧loop F (1,[],0,0,[]) = some (.inr ([],4))):=by
  have ap:=Z9 p;have aj:=Z9 q;obtain ⟨_,ab,d⟩:=J6 (l:=zsOf p ++ zsOf q) (by simp;omega);have d : (Qs (zsOf p ++ zsOf q)).length≤1600:=by simp at d;omega
  have m : ∀ x,(secB kind p q x).length≤(mrgB kind p q).length:=fun x=>qn8 kind q0 x;have ah : mrgB kind p q = (Qy putB Qv (Y6 (Qs (zsOf p ++ zsOf q)) (secB kind p q))).flat putB:=rfl;rw [ah] at m ⊢;rw [ac] at ab d m ⊢;generalize aa : Y6 xs (secB kind p q) = steps at m ⊢;have am : steps.length = xs.length - 1:=by rw [← aa];exact q7u _ _
  have u : ∀ k (g : k < steps.length),steps[k] = (xs[k]'(q0),xs[k + 1]'(q0),secB kind p q (xs[k]'(q0))):=fun k g=>by subst aa;exact q7t g q0
  have af : ∀ k,k≤steps.length→(∀ j,j < k→∀ t,steps[j]? = some t→t.2.2.length≤400)→((Qy putB Qv (steps.take k)).flat putB).length≤1600 * 400:=fun k g n=>by
    have h1:=qbu putB (s0:=Qv) (M:=400) (steps:=steps.take k) (fun t o=>by
      obtain ⟨i,hi,rfl⟩:=List.getElem_of_mem o;rw [List.length_take] at hi;rw [List.getElem_take]
      exact n i q0 _ (List.getElem?_eq_getElem q0))
    have v : (steps.take k).length≤1600:=by rw [List.length_take];omega
    have h3 : (Qv.flat putB : List qg).length = 0:=rfl;have h4 : (steps.take k).length * 400≤1600 * 400:=Nat.mul_le_mul_right _ v;omega
  have main:=qfu (f:=F) (fun k=>(((k + 1 : Nat) : Int),(Qy putB Qv (steps.take k)).sec,((Qy putB Qv (steps.take k)).done.length : Int),(Qy putB Qv (steps.take k)).hi,(Qy putB Qv (steps.take k)).flat putB))
    steps.length (fun j=>∀ t,steps[j]? = some t→t.2.2.length≤400) (.inl ((Qy putB Qv steps).sec,((Qy putB Qv steps).done.length : Int),(Qy putB Qv steps).hi,(Qy putB Qv steps).flat putB)) (.inr ([],4))
    (fun k g n=>by
      have r : k + 1 < xs.length:=by omega
      have hc:=n k (Nat.le_refl _) _ (List.getElem?_eq_getElem g);have hm:=af k q0 fun j al=>n j q0;rw [q3t putB g,u k g] at *;simp only at hc
      exact ag _ _ k (Qy putB Qv (steps.take k)) q0 r rfl rfl hc)
    (fun k g n hb=>by
      have r : k + 1 < xs.length:=by omega
      have an : k < xs.length:=by omega
      refine z _ k (Qy putB Qv (steps.take k)) r rfl ?_;refine Nat.lt_of_not_le fun h=>hb fun t o=>?_;rw [List.getElem?_eq_getElem g,u k g] at o
      cases o;exact h)
    (fun _=>by
      rw [List.take_length]
      exact y steps.length _ q0)
  have ae : ((((0 + 1 : Nat) : Int),(Qy putB Qv (steps.take 0)).sec,((Qy putB Qv (steps.take 0)).done.length : Int),(Qy putB Qv (steps.take 0)).hi,(Qy putB Qv (steps.take 0)).flat putB) : Int × List qi × Int × Int × List qg) = (1,[],0,0,[]):=rfl;rw [ae] at main;rcases main with ⟨_,v⟩ | ⟨j,n,hb,v⟩
  · exact .inl ⟨_,_,_,v⟩
  · refine .inr ⟨?_,v⟩;have ak : j < xs.length:=by omega
    have h5 : 400 < (secB kind p q xs[j]).length:=by
      refine Nat.lt_of_not_le fun h=>hb fun t o=>?_;rw [List.getElem?_eq_getElem n,u j n] at o;cases o;exact h
    exact Nat.lt_of_lt_of_le h5 (m xs[j])
theorem qxi (l : List qg) (m : l.length≤400) (x : ∀ b∈l,vB b) : qak l = some (if 400 < (mrgB 2 l []).length then ([],4) else (mrgB 2 l [],0)):=by
  unfold qak;have aa:=Z9 l;simp only [show idx [l] 0 = some l from rfl,qk,qhn l [] m qe,List.nil_append];rw [qh6 _ q0];simp only [qk];have t : zsOf l = zsOf l ++ zsOf []:=by simp [zsOf]
  obtain ⟨_,y,d⟩:=J6 (l:=zsOf l ++ zsOf []) (by rw [← t];omega);have d : (Qs (zsOf l ++ zsOf [])).length≤800:=by rw [← t] at d ⊢;omega
  have g : ∀ z,q1s (atB l z) = some (if 400 < (secB 2 l [] z).length then ([],4) else (secB 2 l [] z,0)):=fun z=>by
    have:=J3 l z;rw [qmr,mkR,qs q0,qr (qou x z)];rfl
  rw [t]
  have:=qnh (kind:=2) (p:=l) (q:=[]) rfl (by simp;omega) (q4y (Qs (zsOf l ++ zsOf [])) l)
    (fun a b k s hs f r hb u=>by
      have h0 : k < (Qs (zsOf l ++ zsOf [])).length:=by omega
      have o : idx (Qs (zsOf l ++ zsOf [])) (w64 (((k + 1 : Nat) : Int) - 1)) = some a:=by rw [Qa q0,r];exact Jb q0 q0
      have v : idx (Qs (zsOf l ++ zsOf [])) ((k + 1 : Nat) : Int) = some b:=by rw [hb];exact Qz f
      have h:=g a;rw [qs q0] at h;simp only [q4y,dlt f,Q0,o,v,qk,show idx [l] 0 = some l from rfl,q57 l m,h,show ((0 : Int) != 0) = false from rfl,Q4,qnt s a b (secB 2 l [] a) q0]
      rw [w64s f q0])
    (fun a k s f r u=>by
      have o : idx (Qs (zsOf l ++ zsOf [])) (w64 (((k + 1 : Nat) : Int) - 1)) = some a:=by rw [Qa q0,r];exact Jb q0 q0
      have h:=g a;rw [qr u] at h
      simp only [q4y,dlt f,Q0,o,Qz f,qk,show idx [l] 0 = some l from rfl,q57 l m,h,show ((4 : Int) != 0) = true from rfl])
    (fun k s f=>by
      have : decide (((k + 1 : Nat) : Int) < ((Qs (zsOf l ++ zsOf [])).length : Int)) = false:=Q9 q0
      simp only [q4y,this,Q4])
  rcases this with ⟨a,b,c,n⟩ | ⟨j,n⟩
  · rw [n];simp only [qk];by_cases j : 400 < (mrgB 2 l []).length
    · rw [Qb (by omega : ((mrgB 2 l []).length : Int) > 400),qr j];rfl
    · rw [Q9 (by omega : ¬ ((mrgB 2 l []).length : Int) > 400),qs j];rfl
  · rw [n,qr j];rfl
theorem qrd (p q : List qg) (a : p.length≤1000000) : qd7 p q = some (decide (p = q)):=sameBox p q a
theorem qh3 (l : List qg) : q37 l = some (K9 l):=by
  unfold q37 K9;by_cases d : 400 < l.length
  · rw [Qb (by omega : (l.length : Int) > 400),Q0,qr d]
  rw [Q9 (by omega : ¬ (l.length : Int) > 400),Q4,qs d,q120 l q0,qk];by_cases a : ∀ r∈l,vB r
  · rw [Q9 (fun h=>h a),Q4,qxi l q0 a,qr a,qk];by_cases b : 400 < (mrgB 2 l []).length
    · have c : mrgB 2 l []≠l:=fun h=>by rw [h] at b;exact d b
      rw [qr b,qs c];rfl
    · rw [qs b];simp only [qrd (mrgB 2 l []) l q0];by_cases f : mrgB 2 l [] = l <;> simp [f]
  · rw [Qb a,Q0,qs a]
end Go.Sh
namespace Go.Sh
open Go Go.Am
theorem sj1 : qdf = q1y:=rfl
theorem sj2 : qdg = q1y:=rfl
theorem sj4 : qdh = q1z:=rfl
theorem sj5 : qdi = q1z:=rfl
theorem qem {p : List qg} (h : K9 p = 0) (z : Int) : Yj (atB p z) = 0:=by
  obtain ⟨c,b,a⟩:=Zp.1 h;have:=J3 p z;exact q8d.2 ⟨q0,qou b z,a.at z⟩
theorem qcb {p : List qg} (h : K9 p = 0) (z : Int) : q1s (atB p z) = some (atB p z,0):=by
  obtain ⟨c,b,a⟩:=q8d.1 (qem h z);rw [qmr,mkR,qs q0,qr b,qlm q0 a,qs q0]
theorem qxj (kind : Int) (g : List qi→List qi→Option (List qi × Int)) (hg : ∀ a b,g a b = some (jR kind a b)) (p q : List qg) (hp : K9 p = 0) (hq : K9 q = 0) :
    qaj g p q = some (if 400 < (mrgB kind p q).length then ([],4) else (mrgB kind p q,0)):=by
  obtain ⟨o,vp,cp⟩:=Zp.1 hp;obtain ⟨n,vq,cq⟩:=Zp.1 hq;unfold qaj;have ab:=Z9 p;have x:=Z9 q;simp only [show idx [p,q] 0 = some p from rfl,show idx [p,q] 1 = some q from rfl,qk,sj1,sj2,qhn p [] o qe,List.nil_append,qhn q (zsOf p) n q0];rw [qh6 _ (by simp;omega)];simp only [qk];obtain ⟨_,ac,d⟩:=J6 (l:=zsOf p ++ zsOf q) (by simp;omega);have d : (Qs (zsOf p ++ zsOf q)).length≤1600:=by simp at d;omega
  have v : ∀ z,g (atB p z) (atB q z) = some (if 400 < (secB kind p q z).length then ([],4) else (secB kind p q z,0)):=fun z=>by
    rw [hg,jR,qs (by simp [qem hp z]),qs (by simp [qem hq z])];rfl
  have:=qnh (kind:=kind) (p:=p) (q:=q) rfl q0 (q4x (Qs (zsOf p ++ zsOf q)) p q g)
    (fun a b k s hs f t hb u=>by
      have h0 : k < (Qs (zsOf p ++ zsOf q)).length:=by omega
      have r : idx (Qs (zsOf p ++ zsOf q)) (w64 (((k + 1 : Nat) : Int) - 1)) = some a:=by rw [Qa q0,t];exact Jb q0 q0
      have y : idx (Qs (zsOf p ++ zsOf q)) ((k + 1 : Nat) : Int) = some b:=by rw [hb];exact Qz f
      have h:=v a;rw [qs q0] at h;simp only [q4x,dlt f,Q0,r,y,qk,show idx [p,q] 0 = some p from rfl,show idx [p,q] 1 = some q from rfl,sj4,sj5,q57 p o,q57 q n,qcb hp,qcb hq,show ((0 : Int) == 0) = true from rfl,h,show ((0 : Int) != 0) = false from rfl,Q4,qnt s a b (secB kind p q a) q0]
      rw [w64s f q0])
    (fun a k s f t u=>by
      have r : idx (Qs (zsOf p ++ zsOf q)) (w64 (((k + 1 : Nat) : Int) - 1)) = some a:=by rw [Qa q0,t];exact Jb q0 q0
      have h:=v a;rw [qr u] at h
      simp only [q4x,dlt f,Q0,r,Qz f,qk,show idx [p,q] 0 = some p from rfl,show idx [p,q] 1 = some q from rfl,sj4,sj5,q57 p o,q57 q n,qcb hp,qcb hq,show ((0 : Int) == 0) = true from rfl,h,show ((4 : Int) != 0) = true from rfl])
    (fun k s f=>by
      have : decide (((k + 1 : Nat) : Int) < ((Qs (zsOf p ++ zsOf q)).length : Int)) = false:=Q9 q0
      simp only [q4x,this,Q4])
  rcases this with ⟨a,b,c,m⟩ | ⟨j,m⟩
  · rw [m];simp only [qk];by_cases j : 400 < (mrgB kind p q).length
    · rw [Qb (by omega : ((mrgB kind p q).length : Int) > 400),qr j];rfl
    · rw [Q9 (by omega : ¬ ((mrgB kind p q).length : Int) > 400),qs j];rfl
  · rw [m,qr j];rfl
theorem qsy (kind : Int) (g : List qi→List qi→Option (List qi × Int)) (c : ∀ a b,g a b = some (jR kind a b)) (p q : List qg) : qah p q g = some (jB kind p q):=by
  unfold qah jB;simp only [qh3,qk];by_cases hp : ¬ K9 p = 0
  · rw [qr hp];have : (K9 p != 0) = true:=by simpa using hp
    rw [this,Q0]
  replace hp:=Classical.not_not.1 hp;by_cases hq : ¬ K9 q = 0
  · rw [qs (by simp [hp]),qr hq,hp];have : (K9 q != 0) = true:=by simpa using hq
    rw [this];rfl
  replace hq:=Classical.not_not.1 hq;rw [qs (by simp [hp]),qs (by simp [hq]),qxj kind g c p q hp hq,hp,hq];rfl
theorem q11y (p q : List qg) : qag p q = some (jB 2 p q):=by
  unfold qag;rw [qsy 2 _ (fun a b=>qwq a b)];rfl
def q55 (kind : Int) (p q : List qg) (z : Int) : Prop:=400 < (secB kind p q z).length∨400 < (secB 2 p [] z).length∨400 < (secB 2 q [] z).length
theorem qt0 (kind : Int) {p q : List qg} (h : p.length + q.length≤800) (u : ∀ z,(atB p z).length + (atB q z).length≤490) {xs : List Int} (m : xs.length≤1000000) {i : Nat} (hi : i + 1 < xs.length) (hb : q55 kind p q (xs[i]'(q0))) (a : Int) (c : List qi) (o : List qg) :
    q1r xs p q kind (c,a,(i : Int),o) = some (.inr (.inr ([],false))):=by
  have b : i < xs.length:=by omega
  have g : w64 ((i : Int) + 1) = ((i + 1 : Nat) : Int):=w64s b m;have x:=J3 p xs[i];have y:=J3 q xs[i];have nz:=u xs[i];have t : U1 p xs[i] = some (atB p xs[i]):=qco p q0 _;have aq : U1 q xs[i] = some (atB q xs[i]):=qco q q0 _;have r : Jf kind (atB p xs[i]) (atB q xs[i]) = some (secB kind p q xs[i]):=q60 kind q0;have l : Jf 2 (atB p xs[i]) [] = some (secB 2 p [] xs[i]):=q60 2 (by simp;omega);have n : Jf 2 (atB q xs[i]) [] = some (secB 2 q [] xs[i]):=q60 2 (by simp;omega);unfold q1r;simp only [g,dlt hi,Q0,Qz b,t,aq,r,l,n,qk];by_cases s : 400 < (secB kind p q xs[i]).length
  · have d : decide (((secB kind p q xs[i]).length : Int) > 400) = true:=Qb q0;simp only [d,Q0,qk]
  have d : decide (((secB kind p q xs[i]).length : Int) > 400) = false:=Q9 q0;by_cases k : 400 < (secB 2 p [] xs[i]).length
  · have f : decide (((secB 2 p [] xs[i]).length : Int) > 400) = true:=Qb q0;simp only [d,f,Q0,Q4,qk]
  have f : decide (((secB 2 p [] xs[i]).length : Int) > 400) = false:=Q9 q0;have v : 400 < (secB 2 q [] xs[i]).length:=by rcases hb with h | h | h <;> first | exact absurd h s | exact absurd h k | exact h
  have j : decide (((secB 2 q [] xs[i]).length : Int) > 400) = true:=Qb q0;simp only [d,f,j,Q0,Q4,qk]
theorem qw7 (kind : Int) {p q : List qg} (h : p.length + q.length≤800) (hz : ∀ z,(atB p z).length + (atB q z).length≤490) :
    q4h kind p q = some (mrgB kind p q,decide (((mrgB kind p q).length : Int)≤400))∨(q4h kind p q = some ([],false)∧∃ z,q55 kind p q z):=by
  unfold q4h;rw [qw3 q0];simp only [qk];have al:=Z9 p;have ad:=Z9 q;obtain ⟨_,af,o⟩:=J6 (l:=zsOf p ++ zsOf q) (by simp;omega);have aa : (Qs (zsOf p ++ zsOf q)).length≤1600:=by simp at o;omega
  unfold mrgB;generalize Qs (zsOf p ++ zsOf q) = xs at aa ⊢;generalize r : Y6 xs (secB kind p q) = steps;have ai : steps.length = xs.length - 1:=by rw [← r];exact q7u _ _
  have a : ∀ k (b : k < steps.length),steps[k] = (xs[k]'(q0),xs[k + 1]'(q0),secB kind p q (xs[k]'(q0))):=fun k b=>by subst r;exact q7t b q0
  have x : ∀ k,k≤steps.length→(∀ j,j < k→∀ t,steps[j]? = some t→¬ q55 kind p q t.1)→((Qy putB Qv (steps.take k)).flat putB).length≤1600 * 400:=fun k b d=>by
    have h1:=qbu putB (s0:=Qv) (M:=400) (steps:=steps.take k) (fun t c=>by
      obtain ⟨i,hi,rfl⟩:=List.getElem_of_mem c;rw [List.length_take] at hi;rw [List.getElem_take];have:=d i q0 _ (List.getElem?_eq_getElem q0);rw [a i q0] at this ⊢
      exact Nat.le_of_not_lt fun h=>this (.inl h))
    have n : (steps.take k).length≤1600:=by rw [List.length_take];omega
    have h3 : (Qv.flat putB : List qg).length = 0:=rfl;have h4 : (steps.take k).length * 400≤1600 * 400:=Nat.mul_le_mul_right _ n;omega
  have main:=qfu (f:=q1r xs p q kind) (fun k=>((Qy putB Qv (steps.take k)).sec,((Qy putB Qv (steps.take k)).done.length : Int),(k : Int),(Qy putB Qv (steps.take k)).flat putB))
    steps.length (fun j=>∀ t,steps[j]? = some t→¬ q55 kind p q t.1) (.inl ((Qy putB Qv steps).flat putB)) (.inr ([],false)) (fun k b d=>by
      have g : k + 1 < xs.length:=by omega
      have u:=d k (Nat.le_refl _) _ (List.getElem?_eq_getElem b);have hm:=x k q0 fun j ah=>d j q0;rw [a k b] at u
      have s : qhp kind p q xs[k]:=by
        refine ⟨hz _,?_,?_,?_⟩
        · exact Nat.le_of_not_lt fun h=>u (.inl h)
        · exact Nat.le_of_not_lt fun h=>u (.inr (.inl h))
        · exact Nat.le_of_not_lt fun h=>u (.inr (.inr h))
      have:=qt1 kind q0 (xs:=xs) q0 g s (Qy putB Qv (steps.take k)) q0 (fun h0=>by subst h0;rfl) (fun ac=>by
        obtain ⟨m,rfl⟩ : ∃ m,k = m + 1:=⟨k - 1,q0⟩
        rw [q3t putB q0,qe4,a m q0])
      rw [this,q3t putB b,a k b])
    (fun k b _ hb=>by
      have g : k + 1 < xs.length:=by omega
      have aj : k < xs.length:=by omega
      refine qt0 kind h hz q0 g ?_ _ _ _;refine Classical.byContradiction fun y=>hb fun t c=>?_;rw [List.getElem?_eq_getElem b,a k b] at c
      cases c;exact y)
    (fun _=>by
      rw [List.take_length]
      have hb : decide (w64 ((steps.length : Int) + 1) < (xs.length : Int)) = false:=by
        rw [Qa q0];exact Q9 q0
      unfold q1r
      simp only [hb,Q4])
  have v : (((Qy putB Qv (steps.take 0)).sec,((Qy putB Qv (steps.take 0)).done.length : Int),((0 : Nat) : Int),(Qy putB Qv (steps.take 0)).flat putB) : List qi × Int × Int × List qg) = ([],0,0,[]):=rfl;rw [v] at main;rcases main with ⟨h1,n⟩ | ⟨j,d,hb,n⟩
  · exact .inl (by rw [n];rfl)
  · refine .inr ⟨by rw [n];rfl,?_⟩;have ae : j < xs.length:=by omega
    refine ⟨xs[j],?_⟩;refine Classical.byContradiction fun y=>hb fun t c=>?_;rw [List.getElem?_eq_getElem d,a j d] at c;cases c;exact y
theorem qpi {p q : List qg} (h : p.length + q.length≤490) (z : Int) : (atB p z).length + (atB q z).length≤490:=by
  have a:=J3 p z;have b:=J3 q z;omega
theorem qyp (kind : Int) (z : Int) : secB kind [] [] z = []:=qg5 kind
theorem qw5 (kind : Int) {p q : List qg} (h : p.length + q.length≤800) (b : ∀ z,(atB p z).length + (atB q z).length≤490) (hs : ∀ z,q55 kind p q z→400 < (mrgB kind p q).length) :
    ∃ o,q4h kind p q = some (o,decide ((mrgB kind p q).length≤400))∧((mrgB kind p q).length≤400→o = mrgB kind p q):=by
  rcases qw7 kind h b with a | ⟨a,z,b⟩
  · refine ⟨_,?_,fun _=>rfl⟩;rw [a];have : decide (((mrgB kind p q).length : Int)≤400) = decide ((mrgB kind p q).length≤400):=decide_eq_decide.2 q0;rw [this]
  · have:=hs z b;refine ⟨[],?_,fun h=>absurd h q0⟩;rw [a,Q9 q0]
theorem qyx {l : List qg} (h : l.length≤100000) : ∀ z,q55 2 l [] z→400 < (mrgB 2 l []).length:=by
  intro z a;have b:=qn8 2 (p:=l) (q:=[]) (by simpa using h) z;rcases a with a | a | a
  · omega
  · omega
  · rw [qyp] at a;simp at a
theorem qwb (l : List qg) (_ : l.length≤1000000) {γ : Type} (f : Int→Option (Int ⊕ (Unit ⊕ γ))) (e : γ) (d : ∀ k (h : k < l.length),f (k : Int) = some (if (fun r=>!decide (vB r)) l[k] = true then .inr (.inr e) else .inl ((k + 1 : Nat) : Int))) (hd : f (l.length : Int) = some (.inr (.inl ()))) :
    loop f 0 = some (if ∀ b∈l,vB b then .inl () else .inr e):=by
  rcases Ui l (fun r=>!decide (vB r)) (fun k _=>e) () f d hd with ⟨j,a⟩ | ⟨k,c,m,_,a⟩
  · have : ∀ r∈l,vB r:=fun r g=>by simpa using j r g
    rw [qr this];exact a
  · have : ¬ ∀ r∈l,vB r:=fun h=>by simp [h _ (Yf c)] at m
    rw [qs this];exact a
theorem qw2 (l : List qg) : q63 l = some (K9 l):=by
  unfold q63 K9;by_cases d : 400 < l.length
  · rw [Qb (by omega : (l.length : Int) > 400),Q0,qr d]
  rw [Q9 (by omega : ¬ (l.length : Int) > 400),Q4,qs d]
  rw [qwb l q0 (q64 l) 8 (fun k c=>by
    simp only [q64,dlt c,Q0,Qz c,qk,qw9,w64s c q0]
    by_cases a : vB l[k] <;> simp [a]) (by simp only [q64,dnl,Q4])]
  by_cases a : ∀ r∈l,vB r
  · rw [qr a,qr a];obtain ⟨o,m,g⟩:=qw5 2 (p:=l) (q:=[]) (by simp;omega) (qpi (by simp;omega)) (qyx q0);simp only [qk,m];by_cases f : 400 < (mrgB 2 l []).length
    · have b : mrgB 2 l []≠l:=fun h=>by rw [h] at f;exact d f
      rw [Q9 q0,qs b];rfl
    · rw [Qb q0,g q0,sameBox _ l q0];by_cases j : mrgB 2 l [] = l <;> simp [j]
  · rw [qs a,qs a];rfl
end Go.Sh
namespace Go.Sh
open Go Go.Am
def sumN : Nat→(Int→Int)→Int
  | 0,_=>0
  | n + 1,f=>sumN n f + f n
noncomputable def ind (p : Prop) : Int:=by classical exact if p then 1 else 0
theorem qfq {p : Prop} (h : p) : ind p = 1:=by unfold ind;simp [h]
theorem q1m {p : Prop} (h : ¬ p) : ind p = 0:=by unfold ind;simp [h]
theorem q8r {p q : Prop} (h : p↔q) : ind p = ind q:=by rw [propext h]
theorem qsq {p q : Prop} : ind (p∨q) = ind p + ind q - ind (p∧q):=by
  by_cases hp : p <;> by_cases hq : q <;> simp [ind,hp,hq]
def sumL {α : Type} (f : α→Int) : List α→Int
  | []=>0
  | a::r=>f a + sumL f r
theorem qha {α : Type} (f : α→Int) (a b : List α) : sumL f (a ++ b) = sumL f a + sumL f b:=by
  induction a with
  | nil=>simp [sumL]
  | cons x a ih=>rw [List.cons_append,sumL,sumL,ih];omega
theorem qau {α : Type} {f g : α→Int} {l : List α} (h : ∀ a∈l,f a = g a) : sumL f l = sumL g l:=by
  induction l with
  | nil=>rfl
  | cons a l ih=>rw [sumL,sumL,h a qe,ih fun b hb=>h b (by simp [hb])]
theorem qo8 {α : Type} (c : Int) (f : α→Int) (l : List α) : sumL (fun a=>c * f a) l = c * sumL f l:=by
  induction l with
  | nil=>simp [sumL]
  | cons a l ih=>rw [sumL,sumL,ih,Int.mul_add]
theorem qdm {α : Type} (f g : α→Int) (l : List α) : sumL (fun a=>f a + g a) l = sumL f l + sumL g l:=by
  induction l with
  | nil=>rfl
  | cons a l ih=>rw [sumL,sumL,sumL,ih];omega
theorem qoa {α : Type} (l : List α) : sumL (fun _ : α=>0) l = 0:=by
  induction l with
  | nil=>rfl
  | cons a l ih=>rw [sumL,ih];rfl
def inB (b : qg) (x y z : Int) : Prop:=(b.Lo.X≤x∧x < b.Hi.X)∧(b.Lo.Y≤y∧y < b.Hi.Y)∧(b.Lo.Z≤z∧z < b.Hi.Z)
def inR (r : qi) (x y : Int) : Prop:=(r.X0≤x∧x < r.X1)∧(r.Y0≤y∧y < r.Y1)
def inS (t : qj) (x : Int) : Prop:=t.Lo≤x∧x < t.Hi
noncomputable def cntS (s : List qj) (y : Int) : Int:=sumL (fun t=>ind (inS t y)) s
noncomputable def cntR (l : List qi) (x y : Int) : Int:=sumL (fun t=>ind (inR t x y)) l
noncomputable def cntB (l : List qg) (x y z : Int) : Int:=sumL (fun t=>ind (inB t x y z)) l
theorem qik : ∀ {s : List qj},Can s→∀ y,cntS s y = ind (has s y)
  | [],_,y=>by rw [q1m (q1l y)];rfl
  | a::s,h,y=>by
    have b:=qik h.tail y
    unfold cntS at b ⊢
    rw [sumL,b,q8r (Zn (a:=a) (s:=s) (x:=y)),qsq]
    have : ¬ ((a.Lo≤y∧y < a.Hi)∧has s y):=fun ⟨c,h2⟩=>by have:=h.tail_gt h2;omega
    rw [q1m this];unfold inS;omega
theorem qqt (l : List qi) (x y : Int) : cntR l x y = cntS (covS l x) y:=by
  unfold cntR cntS
  induction l with
  | nil=>rfl
  | cons r l ih=>
    have e : covS (r::l) x = (if covR x r = true then [ysp r] else []) ++ covS l x:=rfl;rw [sumL,ih,e,qha];congr 1;by_cases a : covR x r = true
    · rw [qr a];have:=q3p.1 a;simp only [sumL,Int.add_zero];exact q8r ⟨fun h=>h.2,fun h=>⟨this,h⟩⟩
    · rw [qs a];rw [q3p] at a;exact q1m fun h=>a h.1
theorem qqr (l : List qg) (x y z : Int) : cntB l x y z = cntR (atB l z) x y:=by
  unfold cntB cntR
  induction l with
  | nil=>rfl
  | cons r l ih=>
    have e : atB (r::l) z = (if covB z r = true then [Zw r] else []) ++ atB l z:=rfl;rw [sumL,ih,e,qha];congr 1;by_cases a : covB z r = true
    · rw [qr a];have:=U6.1 a;simp only [sumL,Int.add_zero];exact q8r ⟨fun h=>⟨h.1,h.2.1⟩,fun h=>⟨h.1,h.2,this⟩⟩
    · rw [qs a];rw [U6] at a;exact q1m fun h=>a h.2.2
theorem CanR.cnt {l : List qi} (h : CanR l) (x y : Int) : cntR l x y = ind (hasR l x y):=by
  rw [qqt,qik (h.cov x),q8r Ut]
theorem CanB.cnt {l : List qg} (h : CanB l) (x y z : Int) : cntB l x y z = ind (hasB l x y z):=by
  rw [qqr,(h.at z).cnt,q8r q3w]
end Go.Sh
namespace Go.Sh
open Go Go.Am
theorem qhg (x : Int) : w64 x = if 9223372036854775808≤x % 18446744073709551616 then x % 18446744073709551616 - 18446744073709551616 else x % 18446744073709551616:=by
  unfold w64 IntKind.wrap;simp [IntKind.bits,IntKind.signed]
theorem q13a (x y : Int) (h : x % 18446744073709551616 = y % 18446744073709551616) : w64 x = w64 y:=by rw [qhg,qhg,h]
theorem q13b (x : Int) : w64 x % 18446744073709551616 = x % 18446744073709551616:=by rw [qhg];split <;> omega
theorem qox (a b : Int) : w64 (w64 a + b) = w64 (a + b):=q13a _ _ (by have:=q13b a;omega)
theorem qsd {b : qg} {l : List qg} {x y z : Int} : hasB (b::l) x y z↔inB b x y z∨hasB l x y z:=by
  constructor
  · rintro ⟨c,a,h⟩;rcases List.mem_cons.1 a with rfl | a
    · exact .inl h
    · exact .inr ⟨c,a,h⟩
  · rintro (h | ⟨c,a,h⟩)
    · exact ⟨b,qe,h⟩
    · exact ⟨c,by simp [a],h⟩
instance (b : qg) (x y z : Int) : Decidable (inB b x y z):=by unfold inB;infer_instance
instance qr6 : (l : List qg)→(x y z : Int)→Decidable (hasB l x y z)
  | [],x,y,z=>isFalse (qfb x y z)
  | b::l,x,y,z=>by
    have:=qr6 l x y z
    exact decidable_of_iff _ qsd.symm
theorem q11u (b : qg) (v : ql) : q4v b v = some (decide (inB b v.X v.Y v.Z)):=by
  unfold q4v inB;by_cases f : b.Lo.X≤v.X <;> by_cases c : v.X < b.Hi.X <;> by_cases h : b.Lo.Y≤v.Y <;> by_cases d : v.Y < b.Hi.Y <;> by_cases g : b.Lo.Z≤v.Z <;> by_cases a : v.Z < b.Hi.Z <;> simp [f,c,h,d,g,a]
theorem qh4 (l : List qg) (v : ql) (d : l.length≤1000000) : q4u l v = some (decide (hasB l v.X v.Y v.Z)):=by
  unfold q4u Ud q6q
  rcases Ui l (fun b=>decide (inB b v.X v.Y v.Z)) (fun k _=>(k : Int)) () (Jh l (fun x0=>q4v x0 v)) (fun k a=>by
    simp only [Jh,dlt a,Q0,Qz a,qk,q11u,w64s a d]
    by_cases c : inB l[k] v.X v.Y v.Z <;> simp [c]) (by simp only [Jh,dnl,Q4]) with ⟨h1,h2⟩ | ⟨k,a,hc,_,h2⟩
  · rw [h2];simp only [qk];congr 1;rw [show decide ((-1 : Int) ≥ 0) = false from rfl];refine (Q9 ?_).symm;rintro ⟨b,hb,h⟩;have:=h1 b hb;simp at this;exact this h
  · rw [h2];simp only [qk];congr 1;rw [Qb (by omega : (k : Int) ≥ 0)];refine (Qb ?_).symm;exact ⟨l[k],Yf a,of_decide_eq_true hc⟩
end Go.Sh
