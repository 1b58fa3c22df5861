/- Su2 Su3 Su4 Lf2 Lf3 Lf4 Lf5 Lf6 -/
import Derived.Test.YtmnfbjlabfeneaaGreatK6
namespace Go.Sh
open Go Go.Am
def inAx (lo hi p d : Int) (t : Rat) : Prop:=(2 * lo - p : Int) < 2 * (d : Rat) * t∧2 * (d : Rat) * t < (2 * hi - p : Int)
def Jg (lo hi p d : Int) : Rat:=if 0 < d then fr (2 * lo - p) (2 * d) else fr (-(2 * hi - p)) (-(2 * d))
def farA (lo hi p d : Int) : Rat:=if 0 < d then fr (2 * hi - p) (2 * d) else fr (-(2 * lo - p)) (-(2 * d))
theorem qog {n m : Int} (a : 0 < m) : fr n m * (m : Rat) = n:=by
  unfold fr;have : (0 : Rat) < m:=by exact_mod_cast a
  grind
theorem qhm {lo hi p : Int} {t : Rat} : inAx lo hi p 0 t↔2 * lo < p∧p < 2 * hi:=by
  unfold inAx;have e : 2 * ((0 : Int) : Rat) * t = ((0 : Int) : Rat):=by rw [show ((0 : Int) : Rat) = 0 from rfl];grind
  rw [e,qag,qag];omega
theorem qd4 {lo hi p d : Int} (hd : d≠0) {t : Rat} : inAx lo hi p d t↔Jg lo hi p d < t∧t < farA lo hi p d:=by
  unfold inAx Jg farA;by_cases h : 0 < d
  · rw [qp h,qp h];have a : (0 : Rat) < ((2 * d : Int) : Rat):=by exact_mod_cast (by omega : (0 : Int) < 2 * d)
    have e : ((2 * d : Int) : Rat) = 2 * (d : Rat):=by rw [Rat.intCast_mul];rfl
    have b : fr (2 * lo - p) (2 * d) < t↔((2 * lo - p : Int) : Rat) < t * ((2 * d : Int) : Rat):=Rat.div_lt_iff a;have c : t < fr (2 * hi - p) (2 * d)↔t * ((2 * d : Int) : Rat) < ((2 * hi - p : Int) : Rat):=Rat.lt_div_iff a;rw [b,c,e,show 2 * (d : Rat) * t = t * (2 * (d : Rat)) by grind]
  · rw [qr h,qr h];have a : (0 : Rat) < ((-(2 * d) : Int) : Rat):=by exact_mod_cast (by omega : (0 : Int) < -(2 * d))
    have e : ((-(2 * d) : Int) : Rat) = -(2 * (d : Rat)):=by rw [Rat.intCast_neg,Rat.intCast_mul];rfl
    have b : fr (-(2 * hi - p)) (-(2 * d)) < t↔((-(2 * hi - p) : Int) : Rat) < t * ((-(2 * d) : Int) : Rat):=Rat.div_lt_iff a;have c : t < fr (-(2 * lo - p)) (-(2 * d))↔t * ((-(2 * d) : Int) : Rat) < ((-(2 * lo - p) : Int) : Rat):=Rat.lt_div_iff a;rw [b,c,e,Rat.intCast_neg,Rat.intCast_neg];constructor
    · rintro ⟨g,f⟩;constructor <;> grind
    · rintro ⟨g,f⟩;constructor <;> grind
abbrev AxL:=List (Int × Int × Int × Int)
def Zv (l : AxL) (t : Rat) : Prop:=∀ a∈l,inAx a.1 a.2.1 a.2.2.1 a.2.2.2 t
def J3 (l : AxL) : Prop:=∀ a∈l,a.2.2.2 = 0→2 * a.1 < a.2.2.1∧a.2.2.1 < 2 * a.2.1
def loT : AxL→Rat
  | []=>0
  | a::r=>if a.2.2.2 = 0 then loT r else max (Jg a.1 a.2.1 a.2.2.1 a.2.2.2) (loT r)
def hiT : AxL→Option Rat
  | []=>none
  | a::r=>if a.2.2.2 = 0 then hiT r else some (match hiT r with | none=>farA a.1 a.2.1 a.2.2.1 a.2.2.2 | some h=>min (farA a.1 a.2.1 a.2.2.1 a.2.2.2) h)
theorem qte {a b c : Rat} : max a b < c↔a < c∧b < c:=by
  constructor
  · intro h;constructor <;> grind
  · rintro ⟨f,d⟩;grind
theorem qtd {a b c : Rat} : c < min a b↔c < a∧c < b:=by
  constructor
  · intro h;constructor <;> grind
  · rintro ⟨f,d⟩;grind
theorem qal : ∀ l : AxL,0≤loT l
  | []=>by simp [loT]
  | a::r=>by
    have:=qal r
    unfold loT
    split
    · exact this
    · grind
theorem qhx {t : Rat} (c : 0 < t) : ∀ l : AxL,loT l < t↔∀ a∈l,a.2.2.2≠0→Jg a.1 a.2.1 a.2.2.1 a.2.2.2 < t
  | []=>by simp [loT,c]
  | a::r=>by
    have d:=qhx c r
    unfold loT
    split
    · rename_i b
      rw [d];simp [b]
    · rename_i b
      rw [qte,d];simp [b]
theorem qhd {t : Rat} : ∀ l : AxL,(∀ h,hiT l = some h→t < h)↔∀ a∈l,a.2.2.2≠0→t < farA a.1 a.2.1 a.2.2.1 a.2.2.2
  | []=>by simp [hiT]
  | a::r=>by
    have c:=qhd (t:=t) r
    unfold hiT
    by_cases b : a.2.2.2 = 0
    · rw [qp b,c];simp [b]
    · rw [qr b]
      simp only [Option.some.injEq,forall_eq',List.mem_cons,forall_eq_or_imp,ne_eq,b,not_false_eq_true,true_imp_iff]
      rw [← show (∀ h,hiT r = some h→t < h)↔∀ a∈r,¬a.2.2.2 = 0→t < farA a.1 a.2.1 a.2.2.1 a.2.2.2 from c]
      cases d : hiT r with
      | none=>simp
      | some q=>simp only [qtd,Option.some.injEq,forall_eq']
theorem qhk {l : AxL} {h : Rat} (m : hiT l = some h) {t : Rat} (o : 0 < t) : Zv l t↔J3 l∧loT l < t∧t < h:=by
  have f:=qhx o l;have d:=qhd (t:=t) l;rw [m] at d;simp only [Option.some.injEq,forall_eq'] at d;rw [f,d];constructor
  · intro g;refine ⟨fun a c b=>?_,fun a c b=>((qd4 b).1 (g a c)).1,fun a c b=>((qd4 b).1 (g a c)).2⟩;have:=g a c;rw [b,qhm] at this;exact this
  · rintro ⟨j,k,n⟩ a c;by_cases b : a.2.2.2 = 0
    · rw [b,qhm];exact j a c b
    · exact (qd4 b).2 ⟨k a c b,n a c b⟩
theorem qcx : ∀ {l : AxL},(∃ a∈l,a.2.2.2≠0)→∃ h,hiT l = some h
  | a::r,⟨b,hb,h0⟩=>by
    unfold hiT
    by_cases c : a.2.2.2 = 0
    · rw [qp c]
      rcases List.mem_cons.1 hb with rfl | hb
      · exact absurd c h0
      · exact qcx ⟨b,hb,h0⟩
    · rw [qr c];exact ⟨_,rfl⟩
def Jd : AxL→List Rat
  | []=>[]
  | a::r=>if a.2.2.2 = 0 then Jd r else Jg a.1 a.2.1 a.2.2.1 a.2.2.2::farA a.1 a.2.1 a.2.2.1 a.2.2.2::Jd r
theorem qd8 : ∀ l : AxL,loT l = 0∨loT l∈Jd l
  | []=>.inl rfl
  | a::r=>by
    unfold loT Jd
    by_cases b : a.2.2.2 = 0
    · rw [qp b,qp b];exact qd8 r
    · rw [qr b,qr b]
      by_cases c : Jg a.1 a.2.1 a.2.2.1 a.2.2.2≤loT r
      · rw [show max (Jg a.1 a.2.1 a.2.2.1 a.2.2.2) (loT r) = loT r by grind]
        rcases qd8 r with e | e
        · exact .inl e
        · exact .inr (by simp [e])
      · rw [show max (Jg a.1 a.2.1 a.2.2.1 a.2.2.2) (loT r) = Jg a.1 a.2.1 a.2.2.1 a.2.2.2 by grind]
        exact .inr qd
theorem qcy : ∀ (l : AxL) {h : Rat},hiT l = some h→h∈Jd l
  | [],h,e=>by simp [hiT] at e
  | a::r,h,e=>by
    unfold hiT at e
    unfold Jd
    by_cases b : a.2.2.2 = 0
    · rw [qp b] at e;rw [qp b];exact qcy r e
    · rw [qr b] at e;rw [qr b]
      cases c : hiT r with
      | none=>rw [c] at e;cases e;simp
      | some q=>
        rw [c] at e
        have:=qcy r c
        cases e
        show min (farA a.1 a.2.1 a.2.2.1 a.2.2.2) q∈_
        by_cases d : farA a.1 a.2.1 a.2.2.1 a.2.2.2≤q
        · rw [show min (farA a.1 a.2.1 a.2.2.1 a.2.2.2) q = farA a.1 a.2.1 a.2.2.1 a.2.2.2 by grind];simp
        · rw [show min (farA a.1 a.2.1 a.2.2.1 a.2.2.2) q = q by grind];simp [this]
end Go.Sh
namespace Go.Sh
open Go Go.Am
open Classical in
noncomputable def hitT (l : AxL) : Option Rat:=match hiT l with
  | none=>none
  | some h=>if J3 l∧loT l < h then some (loT l) else none
open Classical in
theorem qov {l : AxL} {P : List Rat} (j : ∃ a∈l,a.2.2.2≠0) (d : (0::P).Pairwise (·≤·)) (b : ∀ x,x∈P↔x∈Jd l∧0 < x) : Zs (Zv l) (0::P) = hitT l:=by
  obtain ⟨h,f⟩:=qcx j;have c : ∀ x∈P,0 < x:=fun x j=>((b x).1 j).2;have m:=qal l;have e : hitT l = if J3 l∧loT l < h then some (loT l) else none:=by unfold hitT;rw [f]
  rw [e];by_cases g : J3 l∧loT l < h
  · rw [qp g];refine qgk (fun t k=>?_) g.2 (Rat.le_refl) c d ?_ ?_
    · rw [qhk f k];exact ⟨fun q=>q.2,fun q=>⟨g.1,q⟩⟩
    · rcases qd8 l with q | q
      · rw [q];simp
      · by_cases z : loT l = 0
        · rw [z];simp
        · exact List.mem_cons_of_mem _ ((b _).2 ⟨q,by grind⟩)
    · exact List.mem_cons_of_mem _ ((b _).2 ⟨qcy l f,by grind⟩)
  · rw [qr g];refine qgj (fun t k q=>g ?_) (Rat.le_refl) c;have:=(qhk f k).1 q;exact ⟨this.1,by grind⟩
def LowT (n m : Int) : Prop:=0 < m∧Int.gcd n m = 1
theorem qg1 {b a d : Int} (h : b ∣ a * d) (c : Int.gcd b a = 1) : b ∣ d:=by
  have f : b.natAbs ∣ a.natAbs * d.natAbs:=by rw [← Int.natAbs_mul];exact Int.natAbs_dvd_natAbs.2 h
  exact Int.natAbs_dvd_natAbs.1 (Nat.Coprime.dvd_of_dvd_mul_left (show Nat.Coprime b.natAbs a.natAbs from c) f)
theorem qph {a b c d : Int} (l : LowT a b) (o : LowT c d) (h : fr a b = fr c d) : a = c∧b = d:=by
  obtain ⟨hb,j⟩:=l;obtain ⟨hd,k⟩:=o;have e:=(qgu hb hd).1 h
  have n : b ∣ d:=by
    have : b ∣ a * d:=⟨c,by rw [e,Int.mul_comm]⟩
    have f : Int.gcd b a = 1:=by rw [Int.gcd_comm];exact j
    exact qg1 this f
  have m : d ∣ b:=by
    have : d ∣ c * b:=⟨a,by rw [← e,Int.mul_comm]⟩
    have f : Int.gcd d c = 1:=by rw [Int.gcd_comm];exact k
    exact qg1 this f
  have g : b = d:=Int.le_antisymm (Int.le_of_dvd hd n) (Int.le_of_dvd hb m);subst g;exact ⟨Int.eq_of_mul_eq_mul_right q6 e,rfl⟩
theorem qd9 {n m : Int} (k : 0 < m) : LowT (n / (Int.gcd n m : Int)) (m / (Int.gcd n m : Int))∧fr (n / (Int.gcd n m : Int)) (m / (Int.gcd n m : Int)) = fr n m:=by
  have o : 0 < Int.gcd n m:=Int.gcd_pos_of_ne_zero_right n q6;have q : (0 : Int) < (Int.gcd n m : Int):=by omega
  obtain ⟨a,f⟩:=Int.gcd_dvd_left (a:=n) (b:=m);obtain ⟨b,hb⟩:=Int.gcd_dvd_right (a:=n) (b:=m);generalize d : Int.gcd n m = g at *;have p : n / (g : Int) = a:=by rw [f];exact Int.mul_ediv_cancel_left a q6
  have j : m / (g : Int) = b:=by rw [hb];exact Int.mul_ediv_cancel_left b q6
  rw [p,j]
  have c : 0 < b:=by
    refine Classical.byContradiction fun h=>?_;have : (g : Int) * b≤0:=Int.mul_nonpos_of_nonneg_of_nonpos q6 q6;omega
  refine ⟨⟨c,?_⟩,(qgu c k).2 (by rw [f,hb];ac_rfl)⟩;have : Int.gcd ((g : Int) * a) ((g : Int) * b) = g * Int.gcd a b:=by rw [Int.gcd_mul_left];simp
  rw [← f,← hb,d] at this;have l : g * 1 = g * Int.gcd a b:=by omega
  exact (Nat.eq_of_mul_eq_mul_left o l).symm
end Go.Sh
namespace Go.Sh
open Go Go.Am
theorem qo0 {f : Int × Int→Option ((Int × Int) ⊕ Int)} (N : Nat) (hs : ∀ a b : Nat,a≤N→b≤N→f ((a : Int),(b : Int)) = some (if b = 0 then .inr (a : Int) else .inl ((b : Int),((a % b : Nat) : Int)))) :
    ∀ (b a : Nat),a≤N→b≤N→loop f ((a : Int),(b : Int)) = some ((Nat.gcd a b : Nat) : Int):=by
  intro b
  induction b using Nat.strongRecOn with
  | ind b ih=>
    intro a g hb;have h:=hs a b g hb;by_cases d : b = 0
    · subst d;rw [qp rfl] at h;rw [K7 h,Nat.gcd_zero_right]
    · rw [qr d] at h;have c : a % b < b:=Nat.mod_lt _ q6;rw [Kc h,ih (a % b) c b hb q6,Nat.gcd_comm b,← Nat.gcd_rec,Nat.gcd_comm]
theorem qo1 {f : Int × Int→Option ((Int × Int) ⊕ Int)} (N : Nat) (hs : ∀ a b : Int,a.natAbs≤N→b.natAbs≤N→f (a,b) = some (if b = 0 then .inr a else .inl (b,Int.tmod a b))) :
    ∀ (n : Nat) (b a : Int),b.natAbs = n→a.natAbs≤N→b.natAbs≤N→∃ x,loop f (a,b) = some x∧x.natAbs = Int.gcd a b:=by
  intro n
  induction n using Nat.strongRecOn with
  | ind n ih=>
    intro b a m g hb;have h:=hs a b g hb;by_cases c : b = 0
    · subst c;rw [qp rfl] at h;exact ⟨a,K7 h,qd⟩
    · rw [qr c] at h;have d : (Int.tmod a b).natAbs = a.natAbs % b.natAbs:=Int.natAbs_tmod a b;have l : (Int.tmod a b).natAbs < b.natAbs:=by rw [d];exact Nat.mod_lt _ q6
      obtain ⟨x,j,k⟩:=ih _ q6 (Int.tmod a b) b rfl hb q6;refine ⟨x,by rw [Kc h];exact j,?_⟩;rw [k];unfold Int.gcd;rw [d,Nat.gcd_comm,← Nat.gcd_rec,Nat.gcd_comm]
end Go.Sh
namespace Go.Am
open Go
theorem qzv {k : IntKind} {d : DV} (h : Ty (.int k) d) : ∃ n : Int,d = .int k n∧(Lit.int k n).wf = true:=by
  cases h with | int hw=>exact ⟨_,rfl,hw⟩
def q49 (l : List CT) (x : List DV) : Prop:=x.length = l.length∧∀ (j : Nat) (c : CT) (d : DV),l[j]? = some c→x[j]? = some d→Ty c d
theorem qzr {x : List DV} (h : q49 [] x) : x = []:=List.length_eq_zero_iff.1 h.1
theorem qzq {c : CT} {l : List CT} {x : List DV} (h : q49 (c::l) x) : ∃ d r,x = d::r∧Ty c d∧q49 l r:=by
  obtain ⟨b,a⟩:=h
  cases x with
  | nil=>simp at b
  | cons d r=>exact ⟨d,r,rfl,a 0 c d rfl rfl,by simpa using b,fun j f k g hd=>a (j + 1) f k (by simpa using g) (by simpa using hd)⟩
theorem qzw {α : Type} {l : List CT} {enc : α→List DV} {wf : α→Prop} (row : ∀ x,q49 l x→∃ a,x = enc a∧wf a) {d : DV} (h : Ty (.sl l) d) : ∃ xs : List α,DLe d (.sl l.length (xs.map enc))∧(∀ x∈xs,wf x)∧xs.length≤maxLen:=by
  cases h with
  | nil=>exact ⟨[],.nil _,qd,qd⟩
  | @sl _ xs hl h1 h2=>
    have key : ∀ ys : List (List DV),(∀ y∈ys,q49 l y)→∃ zs : List α,ys = zs.map enc∧∀ z∈zs,wf z:=by
      intro ys
      induction ys with
      | nil=>intro _;exact ⟨[],rfl,qd⟩
      | cons y ys ih=>
        intro f;obtain ⟨a,rfl,g⟩:=row y (f y qd);obtain ⟨zs,rfl,b⟩:=ih fun z b=>f z (by simp [b]);exact ⟨a::zs,rfl,by simpa using ⟨g,b⟩⟩
    obtain ⟨zs,rfl,b⟩:=key xs fun y f=>by
      obtain ⟨i,hi⟩:=List.getElem?_of_mem f;exact ⟨h1 i y hi,fun j c d k hd=>h2 i y j c d hi k hd⟩
    exact ⟨zs,.refl _,b,by simpa using hl⟩
theorem qzx {n : Int} (h : (Lit.int .i64 n).wf = true) : -9223372036854775808≤n∧n≤9223372036854775807:=by
  simp [Lit.wf,IntKind.min,IntKind.max,IntKind.signed,IntKind.bits] at h;omega
theorem qzk {xs : List DV} (h : J5 [] xs) : xs = []:=by cases h;rfl
theorem qzl {c : CT} {a : List (Bool × List CT)} {xs : List DV} (h : J5 ((false,[c])::a) xs) : ∃ d r,xs = d::r∧Ty c d∧J5 a r:=by
  cases h with | one h1 h2=>exact ⟨_,_,rfl,h1,h2⟩
theorem qzj {l : List CT} {a : List (Bool × List CT)} {xs : List DV} (h : J5 ((true,l)::a) xs) : ∃ x r,xs = .agg x::r∧q49 l x∧J5 a r:=by
  cases h with | agg h1 h2 h3=>exact ⟨_,_,rfl,⟨h1,h2⟩,h3⟩
end Go.Am
namespace Go.Am
open Go
theorem RunK.toEv {P : Program} {T : Tab} {base : Nat} {c : Code} {st : AS} {K : Ex→AS→Prop} (h : RunK P T base [c] st K) : ∃ ex st',Kh P T base c st ex st'∧K ex st':=q4c h
section
variable {P : Program} {T : Tab} {base : Nat} {ops : Array Oper} {l : List Oper} {sl : List (Nat × V)} {hp : List (Nat × Blk)} {nx : Nat} {K : AS→Prop} {ty : TypeId} {pos : String} {af : Array Edge} {dst : Option Tmp} {g : Option (Nat × Bool)}
theorem qdm {β : Type} {c : Call} {f : FuncId} {fn : Func} {k : Code} (m : List V) (E : β→Prop) (S : β→AS) (x : Qr ops ⟨sl,hp,nx⟩ ⟨dst,.call c,ty,pos,af,g⟩ = some true) (y : callee ⟨sl,hp,nx⟩ c = some (f,m))
    (u : P.funcs[f]? = some fn) (hb : fn.body = some k) (a : (fn.name == "runtime.NumGoroutine") = false) (d : codeOk fn.ntmps k = true) (t : Nat.ble m.length fn.ntmps = true)
    (h : RunK P T nx [k] ⟨Ku 0 m,hp,nx⟩ (fun ex st'=>(ex = .nor∨ex = .ret)∧∃ v,resV T st' fn.results.toList = some v∧∃ b,E b∧WkE base ((⟨sl,st'.hp,st'.nx⟩ : AS).putD dst v) (S b)))
    (o : ∀ b,E b→OpsK P T base ops none l (S b) K) : OpsK P T base ops none (⟨dst,.call c,ty,pos,af,g⟩::l) ⟨sl,hp,nx⟩ K:=by
  obtain ⟨ex,st',e,q,v,s,b,j,p⟩:=h.toEv;obtain ⟨st2,r,n⟩:=o b j;obtain ⟨ρ,fz,ph,w⟩:=p;exact ⟨st2,.callS x rfl y (.mk u hb a d (by simpa using t) e q s) (.wk w r),n⟩
theorem qdq {β : Type} {c : Call} {gf : Operand} {n : Nat} {r : List V} {s : List (Nat × V)} {f : List Tmp} {assign body A B : Code} (E : β→Prop) (S : β→AS) (hA : assign = A) (hB : body = B) (hg : Qr ops ⟨sl,hp,nx⟩ ⟨dst,.call c,ty,pos,af,g⟩ = some true)
    (j : c.callee = .value gf) (q : AS.ev ⟨sl,hp,nx⟩ gf = some (.yld n)) (v : evL (AS.ev ⟨sl,hp,nx⟩) c.args.toList = some r) (hb : find hp n = some (.loop s f A B .ready none)) (hl : f.length = r.length)
    (h : RunK P T nx [assign] ⟨q1h s f r,hp,nx⟩ (fun ex st1=>ex = .nor∧∃ x,find st1.hp n = some (.loop x f A B .ready none)∧
      RunK P T nx [body] (st1.setBlk n (.loop x f A B .busy none)) (fun ex st2=>∃ o,find st2.hp n = some (.loop o f A B .busy none)∧match ex with
        | .nor=>∃ b,E b∧WkE base ((⟨sl,repl st2.hp n (.loop o f A B .ready none),st2.nx⟩ : AS).putD dst (.d (.bool true))) (S b)
        | ex=>OpsK P T base ops none l ((⟨sl,repl st2.hp n (.loop o f A B .done ex.code),st2.nx⟩ : AS).putD dst (.d (.bool false))) K)))
    (hr : ∀ b,E b→OpsK P T base ops none l (S b) K) : OpsK P T base ops none (⟨dst,.call c,ty,pos,af,g⟩::l) ⟨sl,hp,nx⟩ K:=by
  subst hA hB;obtain ⟨aj,st1,e1,rfl,x,y,p⟩:=h.toEv;obtain ⟨ex,st2,e2,o,u,t⟩:=p.toEv
  have key : ∀ a,Kf P T base ops none l ((⟨sl,repl st2.hp n (.loop o f assign body (if ex = .nor then .ready else .done) ex.code),st2.nx⟩ : AS).putD dst (.d (.bool (decide (ex = .nor))))) a→Kf P T base ops none (⟨dst,.call c,ty,pos,af,g⟩::l) ⟨sl,hp,nx⟩ a:=
    fun a h3=>.callY hg rfl j q v hb hl e1 y e2 u h3
  cases ex with
  | nor=>
    obtain ⟨b,z,ρ,fz,ph,w⟩:=t;obtain ⟨a,k,m⟩:=hr b z;exact ⟨a,key a (.wk w k),m⟩
  | exit i=>
    obtain ⟨a,k,m⟩:=t;exact ⟨a,key a k,m⟩
  | ret=>
    obtain ⟨a,k,m⟩:=t;exact ⟨a,key a k,m⟩
end
section
variable {P : Program} {T : Tab} {base : Nat} {cs : List Code} {sl : List (Nat × V)} {hp : List (Nat × Blk)} {nx : Nat} {K : Ex→AS→Prop}
def qbz (P : Program) (T : Tab) (base : Nat) (cs : List Code) (K : Ex→AS→Prop) : Ex→AS→Prop:=q9l (fun st'=>RunK P T base cs st' K) K
theorem qe6 {n : Operand} {m : Array Tmp} {assign body : Code} {f : FuncId} {fn : Func} {l : Code} (a : List V)
    (y : AS.ev ⟨sl,hp,nx⟩ n = some (.fn f a)∨∃ ds,AS.ev ⟨sl,hp,nx⟩ n = some (.d (.fn f ds))∧a = ds.map .d)
    (r : P.funcs[f]? = some fn) (hb : fn.body = some l) (c : (fn.name == "runtime.NumGoroutine") = false) (k : codeOk fn.ntmps l = true) (t : Nat.ble (a.length + 1) fn.ntmps = true)
    (h : ∀ A B,assign = A→body = B→RunK P T (nx + 1) [l] ⟨Ku 0 (.yld nx::a),(nx,.loop sl m.toList A B .ready none)::hp,nx + 1⟩ (fun g b=>(g = .nor∨g = .ret)∧∃ v,resV T b fn.results.toList = some v∧
      ∃ (s : List (Nat × V)) (j : LoopState) (ex : Ex),find b.hp nx = some (.loop s m.toList A B j ex.code)∧j≠.busy∧qbz P T base cs K ex ⟨sl,repl b.hp nx .dead,b.nx⟩)) :
    RunK P T base (.rangeFunc n m assign body::cs) ⟨sl,hp,nx⟩ K:=by
  obtain ⟨g,b,e,p,v,q,s,j,ex,x,u,o⟩:=(h assign body rfl rfl).toEv;exact ⟨ex,_,.rangeF (pe:=ex.code) y (.mk r hb c k (by simpa using t) e p q) x u rfl,o⟩
theorem qc0 {st : AS} (h : RunK P T base cs st K) : qbz P T base cs K .nor st:=h
theorem qlq {st : AS} (h : K .ret st) : qbz P T base cs K .ret st:=h
end
inductive WvS (st : AS) (ρ : Nat→Nat) (fz ph : List Nat) (nx : Nat) : List (Nat × V)→List (Nat × V)→Prop
  | nil {s : List (Nat × V)} : WvS st ρ fz ph nx s []
  | cons {s s' : List (Nat × V)} {t : Nat} {v v' : V} : find s t = some v→Wv st ρ fz ph nx v v'→WvS st ρ fz ph nx s s'→WvS st ρ fz ph nx s ((t,v')::s')
theorem qz7 {st : AS} {ρ : Nat→Nat} {fz ph : List Nat} {nx : Nat} {s b : List (Nat × V)} {d : List Tmp} {as f : Code} {c : LoopState} {pe : Option Code} (h : WvS st ρ fz ph nx s b) : Wb st ρ fz ph nx (.loop s d as f c pe) (.loop b d as f c pe):=by
  refine .loop fun t g a=>?_
  induction h with
  | nil=>simp [find] at a
  | @cons b t' v v'' h1 h2 _ ih=>
    simp only [find] at a
    cases hb : Nat.beq t' t with
    | true=>rw [hb] at a;cases a;obtain rfl:=Nat.eq_of_beq_eq_true hb;exact ⟨v,h1,h2⟩
    | false=>rw [hb] at a;exact ih a
theorem qkz {α : Type} {enc : α→List DV} {es : Nat} (a : ∀ x,(enc x).length = es) {xs : List α} {k : Nat} {v : α} (h : xs[k]? = some v) : sub (xs.flatMap enc) (k * es) es = some (enc v):=by
  induction xs generalizing k with
  | nil=>simp at h
  | cons x xs ih=>
    cases k with
    | zero=>
      simp at h;subst h;have:=a x;simp [sub,List.flatMap_cons,this]
    | succ k=>
      have f : xs[k]? = some v:=by simpa using h
      have:=ih f;unfold sub at this ⊢;have d:=a x;have b : (k + 1) * es = (enc x).length + k * es:=by rw [Nat.succ_mul,d];omega
      rw [List.flatMap_cons,b];split at this
      · rename_i c;rw [qp (by rw [List.length_append];omega),← List.drop_drop,List.drop_left];exact this
      · cases this
theorem qy7 {α : Type} {enc : α→List DV} {es : Nat} (a : ∀ x,(enc x).length = es) {xs : List α} {k : Nat} {v : α} (h : k < xs.length) : splice (xs.flatMap enc) (k * es) (enc v) = (xs.set k v).flatMap enc:=by
  induction xs generalizing k with
  | nil=>simp at h
  | cons x xs ih=>
    have b:=a x;have d:=a v
    cases k with
    | zero=>
      simp only [splice,Nat.zero_mul,List.take_zero,List.nil_append,Nat.zero_add,List.flatMap_cons,List.set_cons_zero];rw [d,← b,List.drop_left]
    | succ k=>
      have:=ih (k:=k) (by simpa using h);simp only [splice] at this ⊢;have c : (k + 1) * es = (enc x).length + k * es:=by rw [Nat.succ_mul,b];omega
      rw [List.flatMap_cons,List.set_cons_succ,List.flatMap_cons,c,← this];rw [List.take_length_add_append,show (enc x).length + k * es + (enc v).length = (enc x).length + (k * es + (enc v).length) by omega,← List.drop_drop,List.drop_left];simp [List.append_assoc]
theorem qo8 {α : Type} {enc : α→List DV} {es : Nat} (a : ∀ x,(enc x).length = es) (xs : List α) : (xs.flatMap enc).length = xs.length * es:=by
  induction xs with
  | nil=>simp
  | cons x xs ih=>rw [List.flatMap_cons,List.length_append,a,ih,List.length_cons,Nat.succ_mul];omega
def idxA {α : Type} (n : Nat) (xs : List α) (i : Int) : Option α:=if 0≤i∧i < n then xs[i.toNat]? else none
def andI (k : IntKind) (x y : Int) : Int:=k.wrap (BitVec.ofInt k.bits x &&& BitVec.ofInt k.bits y).toNat
def xorI (k : IntKind) (x y : Int) : Int:=k.wrap (BitVec.ofInt k.bits x ^^^ BitVec.ofInt k.bits y).toNat
def quoK (k : IntKind) (x y : Int) : Option Int:=if y = 0 then none else some (k.wrap (x.tdiv y))
def remK (x y : Int) : Option Int:=if y = 0 then none else some (x.tmod y)
section
variable {P : Program} {T : Tab} {base : Nat} {ops : Array Oper} {dr : Dr} {l : List Oper} {sl : List (Nat × V)} {hp : List (Nat × Blk)} {nx : Nat} {K : AS→Prop} {ty : TypeId} {pos : String} {af : Array Edge} {t : Tmp} {g : Option (Nat × Bool)}
theorem qiv {x y : Operand} {f j : TypeId} {a b r : Int} {k : IntKind} (c : quoK k a b = some r) (p : Qr ops ⟨sl,hp,nx⟩ ⟨some t,.binOp .quo f x y j,ty,pos,af,g⟩ = some true) (o : AS.ev ⟨sl,hp,nx⟩ x = some (.d (.int k a))) (m : AS.ev ⟨sl,hp,nx⟩ y = some (.d (.int k b)))
    (h : OpsK P T base ops dr l ⟨(t,.d (.int k r))::sl,hp,nx⟩ K) : OpsK P T base ops dr (⟨some t,.binOp .quo f x y j,ty,pos,af,g⟩::l) ⟨sl,hp,nx⟩ K:=by
  unfold quoK at c;split at c
  · cases c
  · rename_i n;cases c;exact Kw p (v:=.d (.int k (k.wrap (a.tdiv b)))) (st1:=⟨sl,hp,nx⟩) (by simp [opFn,o,m,binD,binI,n]) h (Z4 rfl)
theorem qqj {x y : Operand} {f j : TypeId} {a b r : Int} {k : IntKind} (c : remK a b = some r) (p : Qr ops ⟨sl,hp,nx⟩ ⟨some t,.binOp .rem f x y j,ty,pos,af,g⟩ = some true) (o : AS.ev ⟨sl,hp,nx⟩ x = some (.d (.int k a))) (m : AS.ev ⟨sl,hp,nx⟩ y = some (.d (.int k b)))
    (h : OpsK P T base ops dr l ⟨(t,.d (.int k r))::sl,hp,nx⟩ K) : OpsK P T base ops dr (⟨some t,.binOp .rem f x y j,ty,pos,af,g⟩::l) ⟨sl,hp,nx⟩ K:=by
  unfold remK at c;split at c
  · cases c
  · rename_i n;cases c;exact Kw p (v:=.d (.int k (a.tmod b))) (st1:=⟨sl,hp,nx⟩) (by simp [opFn,o,m,binD,binI,n]) h (Z4 rfl)
theorem qyi {α β : Type} (f : α→β) (cs : List α) (j n : Nat) : sub (cs.map f) j n = (sub cs j n).map (·.map f):=by
  unfold sub;simp only [List.length_map];split
  · simp [List.map_take,List.map_drop]
  · rfl
theorem qah {α : Type} {n : Nat} {xs : List α} {i : Int} {v : α} (h : idxA n xs i = some v) : 0≤i∧i < n∧xs[i.toNat]? = some v:=by
  unfold idxA at h;split at h
  · rename_i a;exact ⟨a.1,a.2,h⟩
  · cases h
theorem qip {α : Type} {x y : Operand} {a : TypeId} {i : TI} {k : IntKind} {n : Int} {enc : α→List DV} {v : α} (xs : List α) (w : V) (m : idxA i.len xs n = some v) (b : ∀ x,(enc x).length = i.esize) (s : Qr ops ⟨sl,hp,nx⟩ ⟨some t,.index a x y,ty,pos,af,g⟩ = some true) (o : T a = some i)
    (j : AS.ev ⟨sl,hp,nx⟩ x = some (.d (.agg (xs.flatMap enc)))) (c : AS.ev ⟨sl,hp,nx⟩ y = some (.d (.int k n))) (u : i.kind = .array) (f : pack i.eagg ((enc v).map .d) = some w)
    (h : OpsK P T base ops dr l ⟨(t,w)::sl,hp,nx⟩ K) : OpsK P T base ops dr (⟨some t,.index a x y,ty,pos,af,g⟩::l) ⟨sl,hp,nx⟩ K:=by
  obtain ⟨q,r,p⟩:=qah m;refine Kw s (v:=w) (st1:=⟨sl,hp,nx⟩) ?_ h (Z4 rfl);simp only [opFn,o,j,c,u,agD];rw [qp ⟨q,r⟩,qyi,qkz b p];simp only [Option.map_some,f]
theorem q1a {α : Type} {x y : Operand} {a : TypeId} {i : TI} {k : IntKind} {n : Int} {m es : Nat} {v : α} {xs : List α} (f : idxA i.len xs n = some v) (q : Qr ops ⟨sl,hp,nx⟩ ⟨some t,.indexAddr a x y,ty,pos,af,g⟩ = some true) (j : T a = some i)
    (c : AS.ev ⟨sl,hp,nx⟩ x = some (.ref m es 0 0)) (b : AS.ev ⟨sl,hp,nx⟩ y = some (.d (.int k n))) (r : i.kind = .array)
    (h : OpsK P T base ops dr l ⟨(t,.ref m es 0 (n.toNat * i.esize))::sl,hp,nx⟩ K) : OpsK P T base ops dr (⟨some t,.indexAddr a x y,ty,pos,af,g⟩::l) ⟨sl,hp,nx⟩ K:=by
  obtain ⟨o,p,_⟩:=qah f;exact Kw q (v:=.ref m es 0 (n.toNat * i.esize)) (st1:=⟨sl,hp,nx⟩) (by simp [opFn,c,b,j,q36,r,o,p]) h (Z4 rfl)
theorem q26 {α : Type} {p : Operand} {a : TypeId} {i : TI} {m es sz o : Nat} {n : Int} {xs : List α} {enc : α→List DV} {v : α} (w : V) (j : idxA o xs n = some v) (b : ∀ x,(enc x).length = sz) (q : Qr ops ⟨sl,hp,nx⟩ ⟨some t,.load a p,ty,pos,af,g⟩ = some true) (k : T a = some i)
    (f : AS.ev ⟨sl,hp,nx⟩ p = some (.ref m es 0 (n.toNat * sz))) (hb : find hp m = some (.dat es [xs.flatMap enc])) (hs : sz = i.size) (c : (q1b i.agg (enc v)).map .d = some w)
    (h : OpsK P T base ops dr l ⟨(t,w)::sl,hp,nx⟩ K) (r : okF dr l.length (fp ⟨sl,hp,nx⟩ (.load a p)) = true:=by rfl) : OpsK P T base ops dr (⟨some t,.load a p,ty,pos,af,g⟩::l) ⟨sl,hp,nx⟩ K:=
  qiq q k f hb rfl (by rw [← hs];exact qkz b (qah j).2.2) c h r
theorem qqm {α : Type} {p x : Operand} {k : TypeId} {i : TI} {m es sz y : Nat} {n : Int} {xs : List α} {enc : α→List DV} {v : α} (j : α) {u : V} (s : idxA y xs n = some v) (a : ∀ x,(enc x).length = sz) (z : Qr ops ⟨sl,hp,nx⟩ ⟨none,.store k p x,ty,pos,af,g⟩ = some true) (t : T k = some i)
    (hp' : AS.ev ⟨sl,hp,nx⟩ p = some (.ref m es 0 (n.toNat * sz))) (r : AS.ev ⟨sl,hp,nx⟩ x = some u) (hb : find hp m = some (.dat es [xs.flatMap enc])) (hs : sz = i.size) (o : cellsOf u = (enc j).map .d) (hk : (enc j).all Z9 = true)
    (h : OpsK P T base ops dr l ⟨sl,repl hp m (.dat es [(xs.set n.toNat j).flatMap enc]),nx⟩ K) (hF : okO dr l.length ⟨sl,hp,nx⟩ (.store k p x) ⟨sl,repl hp m (.dat es [(xs.set n.toNat j).flatMap enc]),nx⟩ = true:=by rfl) : OpsK P T base ops dr (⟨none,.store k p x,ty,pos,af,g⟩::l) ⟨sl,hp,nx⟩ K:=by
  have c:=Kb (qah s).2.2;refine Kw z (v:=.dead) (st1:=⟨sl,repl hp m (.dat es [(xs.set n.toNat j).flatMap enc]),nx⟩) ?_ h hF;have b : (cellsOf u).all Ke = true:=by rw [o,List.all_map];exact hk
  have f : (cellsOf u).length = i.size:=by rw [o,List.length_map,a];exact hs
  have q : n.toNat * sz + i.size≤(xs.flatMap enc).length:=by
    rw [qo8 a,← hs,← Nat.succ_mul];exact Nat.mul_le_mul_right _ c
  simp only [opFn,t,hp',r,J2,AS.blk,hb,Nat.beq_refl];rw [qr (by simp [b,f])];simp only [List.getElem?_cons_zero];rw [qp q,o,qc1];simp only [qy7 a c,AS.setBlk,List.set_cons_zero];rfl
theorem qlj {α : Type} {st : AS} {ρ : Nat→Nat} {fz ph : List Nat} {nx n es : Nat} {w : Nat × Nat} {ys : List α} {enc : α→List DV} (a : w.1 + w.2≤ys.length) (hb : st.blk n = some (.dat es (ys.map enc))) (b : n∈fz) : Wv st ρ fz ph nx (.hs n es w.1 w.2) (.d (.sl es (((ys.drop w.1).take w.2).map enc))):=
  .frz hb b (by simpa using a) (by rw [List.map_take,List.map_drop]) rfl
theorem qlr {hp : List (Nat × Blk)} {a : List V} {ds C : List DV} (h : Ki hp a = some ds) : Ki hp (a ++ C.map .d) = some (ds ++ C):=by
  induction a generalizing ds with
  | nil=>
    simp [Ki] at h;subst h
    induction C with
    | nil=>rfl
    | cons c C ih=>
      simp only [List.nil_append,List.map_cons] at ih ⊢;simp only [Ki];rw [show toD hp 8 (.d c) = some c from rfl,ih]
  | cons v a ih=>
    simp only [Ki] at h;split at h <;> simp at h
    rename_i x l b f;subst h;simp only [List.cons_append,Ki,b,ih f]
theorem qo9 {a : List V} {C : List DV} : fpC (a ++ C.map .d) = fpC a:=by
  unfold fpC;have : (C.map V.d).all V.isD = true:=by rw [List.all_map];simp [V.isD]
  rw [List.all_append,this,Bool.and_true]
theorem Yw {c : Call} {f : FuncId} {C ds : List DV} {r : DV} (a : List V) (b : Pure P T f (ds ++ C) r) (k : Qr ops ⟨sl,hp,nx⟩ ⟨some t,.call c,ty,pos,af,g⟩ = some true) (j : callee ⟨sl,hp,nx⟩ c = some (f,a ++ C.map .d)) (hd : Ki hp a = some ds)
    (hs : (a.all V.isD = true∨r.scalar = true)) (h : OpsK P T base ops dr l ⟨(t,.d r)::sl,hp,nx⟩ K) (m : okF dr l.length (fpC a) = true:=by rfl) : OpsK P T base ops dr (⟨some t,.call c,ty,pos,af,g⟩::l) ⟨sl,hp,nx⟩ K:=by
  refine qio k rfl j (qlr hd) ?_ b h (by rw [qo9];exact m);rcases hs with hs | hs
  · left;rw [List.all_append,hs,Bool.true_and,List.all_map];simp [V.isD]
  · exact .inr hs
end
end Go.Am
namespace Go.Am
open Go
theorem Yn {base : Nat} {st st' : AS} (l : List (Nat × Nat)) (fz ph : List Nat) (g : wkOk base l fz ph st'.hp st'.nx = true) (hs : WkL st (rho l) fz ph st'.nx st'.sl) (v : WkH st (rho l) fz ph st'.nx st'.hp) : Wk base (rho l) fz ph st st':=by
  simp only [wkOk,Bool.and_eq_true,Nat.ble_eq,List.all_eq_true] at g;obtain ⟨⟨⟨⟨r,q⟩,p⟩,x⟩,o⟩:=g;refine ⟨?_,?_,?_,?_,?_,r,?_,?_⟩
  · exact fun t z h=>hs.get (Zj h)
  · exact fun n y h=>v.get (Zj h)
  · intro n m b c a k d j s;have:=o _ (Zj a);simp only [Bool.or_eq_true,Bool.and_eq_true,q4m,List.all_eq_true,Bool.not_eq_true'] at this;rcases this with h | h
    · exact absurd h d
    · have:=h.2 _ (Zj k);rcases this with (f | f) | f
      · exact absurd f j
      · rw [s] at f;simp at f
      · exact Nat.eq_of_beq_eq_true f
  · intro n b a d u;have:=o _ (Zj a);simp only [Bool.or_eq_true,Bool.and_eq_true,q4m,Bool.not_eq_true'] at this;rcases this with h | h
    · exact absurd h d
    · rw [q4m.2 u] at h;exact absurd h.1 qd
  · intro n a;unfold rho;split
    · rename_i m k;have:=q _ (Zj k);simp at this;omega
    · rfl
  · exact fun n a=>p n a
  · exact fun n a=>x n a
def q6y (l l3 : List (Nat × Nat)) (k k' nx nxN : Nat) : Bool:=
  (List.range k).all (fun i=>Nat.blt (rho l i) nx && Nat.beq (rho l3 (rho l i)) i) && (List.range nx).all (fun m=>(Nat.blt (rho l3 m) k && Nat.beq (rho l (rho l3 m)) m) || Nat.ble k' (rho l3 m)) && Nat.ble nx nxN
def OldL (l : List (Nat × Nat)) (k : Nat) (hp hpR : List (Nat × Blk)) : List (Nat × Blk)→Prop
  | []=>True
  | (m,b)::r=>(find hpR m = some b∨(find hp m = some b∧(List.range k).all (fun i=>!(Nat.beq (rho l i) m)) = true))∧OldL l k hp hpR r
theorem OldL.get {l : List (Nat × Nat)} {k : Nat} {hp a : List (Nat × Blk)} : ∀ {r : List (Nat × Blk)},OldL l k hp a r→∀ m b,(m,b)∈r→find a m = some b∨(find hp m = some b∧∀ i,i < k→rho l i≠m)
  | [],_,m,b,h=>by cases h
  | (m',b')::r,h,m,b,c=>by
    rcases List.mem_cons.1 c with e | c
    · cases e
      refine h.1.imp (fun x=>x) fun ⟨d,h2⟩=>⟨d,fun i hi e=>?_⟩
      have:=List.all_eq_true.1 h2 i (List.mem_range.2 hi)
      rw [e] at this;simp at this
    · exact OldL.get h.2 m b c
section
variable {P : Program} {T : Tab} {base : Nat} {ops : Array Oper} {l : List Oper} {sl : List (Nat × V)} {hp : List (Nat × Blk)} {nx : Nat} {K : AS→Prop} {ty : TypeId} {pos : String} {af : Array Edge} {dst : Option Tmp} {g : Option (Nat × Bool)}
theorem Ud {c : Call} {f : FuncId} {j : List V} {hp0 o : List (Nat × Blk)} {k r : Nat} {vR : V} (u y : List (Nat × Nat)) (v : List V) (z : V) (a q : List (Nat × Blk)) (d : Nat) (he : K6 P T f j hp0 k vR o r) (hg : Qr ops ⟨sl,hp,nx⟩ ⟨dst,.call c,ty,pos,af,g⟩ = some true) (hc : callee ⟨sl,hp,nx⟩ c = some (f,v)) (p : v.length = j.length)
    (x : Wk 0 (rho u) [] [] ⟨Ku 0 v,hp,nx⟩ ⟨Ku 0 j,hp0,k⟩) (s : Wk 0 (rho y) [] [] ⟨[(0,vR)],o,r⟩ ⟨[(0,z)],a,d⟩) (hb : q6y u y k r nx d = true) (hold : OldL u k hp a q)
    (h : OpsK P T base ops none l ((⟨sl,q,d⟩ : AS).putD dst z) K) : OpsK P T base ops none (⟨dst,.call c,ty,pos,af,g⟩::l) ⟨sl,hp,nx⟩ K:=by
  obtain ⟨st2,e2,k2⟩:=h;refine ⟨st2,.callF hg rfl hc p x he s ⟨?_,?_,?_,?_,?_⟩ e2,k2⟩
  · intro i hi;simp only [q6y,Bool.and_eq_true,List.all_eq_true,List.mem_range] at hb;have:=hb.1.1 i hi;exact ⟨by simpa [Nat.blt_eq] using this.1,Nat.eq_of_beq_eq_true this.2⟩
  · intro m t;simp only [q6y,Bool.and_eq_true,List.all_eq_true,List.mem_range,Bool.or_eq_true] at hb;rcases hb.1.2 m t with n | n
    · exact .inl ⟨by simpa [Nat.blt_eq] using n.1,Nat.eq_of_beq_eq_true n.2⟩
    · exact .inr (by simpa using n)
  · intro m t;cases t
  · exact fun m b n=>hold.get m b (Zj n)
  · simp only [q6y,Bool.and_eq_true] at hb;simpa using hb.2
end
theorem Kj {P : Program} {T : Tab} {f : FuncId} {fn : Func} {c : Code} {g : List V} {hp b : List (Nat × Blk)} {nx j : Nat} {vR : V} (m : P.funcs[f]? = some fn) (hb : fn.body = some c) (a : (fn.name == "runtime.NumGoroutine") = false) (d : codeOk fn.ntmps c = true) (n : Nat.ble g.length fn.ntmps = true)
    (h : RunK P T nx [c] ⟨Ku 0 g,hp,nx⟩ (fun ex st=>(ex = .nor∨ex = .ret)∧∃ v,resV T st fn.results.toList = some v∧WkE nx ⟨[(0,v)],st.hp,st.nx⟩ ⟨[(0,vR)],b,j⟩)) : K6 P T f g hp nx vR b j:=by
  obtain ⟨ex,st',e,k,v,l,ρ,fz,ph,w⟩:=q4c h;exact .wk (.mk m hb a d (by simpa using n) e k l) w
def shlK (k : IntKind) (x y : Int) : Option Int:=if y < 0 then none else some (k.wrap (x * 2 ^ (min y.toNat k.bits)))
section
variable {P : Program} {T : Tab} {base : Nat} {ops : Array Oper} {dr : Dr} {l : List Oper} {sl : List (Nat × V)} {hp : List (Nat × Blk)} {nx : Nat} {K : AS→Prop} {ty : TypeId} {pos : String} {af : Array Edge} {t : Tmp} {g : Option (Nat × Bool)}
theorem qqk {x y : Operand} {f j : TypeId} {a b r : Int} {k p : IntKind} (c : shlK k a b = some r) (q : Qr ops ⟨sl,hp,nx⟩ ⟨some t,.binOp .shl f x y j,ty,pos,af,g⟩ = some true) (o : AS.ev ⟨sl,hp,nx⟩ x = some (.d (.int k a))) (m : AS.ev ⟨sl,hp,nx⟩ y = some (.d (.int p b)))
    (h : OpsK P T base ops dr l ⟨(t,.d (.int k r))::sl,hp,nx⟩ K) : OpsK P T base ops dr (⟨some t,.binOp .shl f x y j,ty,pos,af,g⟩::l) ⟨sl,hp,nx⟩ K:=by
  unfold shlK at c;split at c
  · cases c
  · rename_i n;cases c;exact Kw q (v:=.d (.int k (k.wrap (a * 2 ^ (min b.toNat k.bits))))) (st1:=⟨sl,hp,nx⟩) (by simp [opFn,o,m,binD,q86,n]) h (Z4 rfl)
end
def Qz (n m : Nat) : Option Unit:=if n = m then some () else none
theorem Ko {n m : Nat} {u : Unit} (h : Qz n m = some u) : n = m:=by
  unfold Qz at h;split at h
  · assumption
  · cases h
def q47 (s : ByteArray) (i : Int) : Option Int:=(if 0≤i then s[i.toNat]? else none).map fun b=>(b.toNat : Int)
theorem qqd {P : Program} {T : Tab} {base : Nat} {ops : Array Oper} {dr : Dr} {l : List Oper} {sl : List (Nat × V)} {hp : List (Nat × Blk)} {nx : Nat} {K : AS→Prop} {ty : TypeId} {pos : String} {af : Array Edge} {t : Tmp} {g : Option (Nat × Bool)} {x y : Operand} {c : TypeId} {i : TI} {k : IntKind} {n v : Int} (s : ByteArray) (a : q47 s n = some v) (m : Qr ops ⟨sl,hp,nx⟩ ⟨some t,.index c x y,ty,pos,af,g⟩ = some true) (p : T c = some i)
    (j : AS.ev ⟨sl,hp,nx⟩ x = some (.d (.str s))) (f : AS.ev ⟨sl,hp,nx⟩ y = some (.d (.int k n))) (o : i.kind = .str)
    (h : OpsK P T base ops dr l ⟨(t,.d (.int .u8 v))::sl,hp,nx⟩ K) : OpsK P T base ops dr (⟨some t,.index c x y,ty,pos,af,g⟩::l) ⟨sl,hp,nx⟩ K:=by
  unfold q47 at a;rw [Ks] at a;obtain ⟨b,hb,rfl⟩:=a;refine Kw m (v:=.d (.int .u8 b.toNat)) (st1:=⟨sl,hp,nx⟩) ?_ h (Z4 rfl);simp only [opFn,p,j,f,o,hb,Option.map_some]
open Classical in
noncomputable def lim {α : Type} (f : Nat→Option α) : Option α:=if h : ∃ r n,f n = some r then some h.choose else none
theorem qd7 {α : Type} {f : Nat→Option α} {r : α} (h : lim f = some r) : ∃ n,f n = some r:=by
  unfold lim at h;split at h
  · rename_i a;cases h;exact a.choose_spec
  · cases h
theorem qpc {α : Type} {f : Nat→Option α} {n : Nat} {r : α} (h : f n = some r) : ∃ a,lim f = some a:=by
  unfold lim;rw [dif_pos ⟨r,n,h⟩];exact ⟨_,rfl⟩
theorem q1g {P : Program} {T : Tab} {base : Nat} {c : Code} {cs : List Code} {st : AS} {K : Ex→AS→Prop} (h : RunK P T base (c::.loop c::cs) st K) : RunK P T base (.loop c::cs) st K:=by
  obtain ⟨ex,st1,a,b⟩:=h
  cases ex with
  | nor=>
    obtain ⟨d,st2,g,f⟩:=b;exact ⟨d,st2,.loopN a g,f⟩
  | exit i=>exact ⟨_,_,.loopX a qd,b⟩
  | ret=>exact ⟨_,_,.loopX a qd,b⟩
def idxW {α : Type} (xs : List α) (w : Nat × Nat) (k : Int) : Option α:=if 0≤k∧k < w.2 then xs[w.1 + k.toNat]? else none
theorem qd3 {α : Type} {xs : List α} {w : Nat × Nat} {k : Int} {v : α} (h : idxW xs w k = some v) : idx xs ((w.1 : Int) + k) = some v:=by
  unfold idxW at h;split at h
  · rename_i a;unfold idx;rw [qp q6];rw [show ((w.1 : Int) + k).toNat = w.1 + k.toNat by omega];exact h
  · cases h
def q2s (n : Nat) (w : Nat × Nat) : Option Unit:=if w.1 + w.2≤n then some () else none
theorem qlf {n : Nat} {w : Nat × Nat} {u : Unit} (h : q2s n w = some u) : w.1 + w.2≤n:=by
  unfold q2s at h;split at h
  · assumption
  · cases h
def clrw {α : Type} (xs : List α) (w : Nat × Nat) (z : α) : List α:=splice xs w.1 (List.replicate w.2 z)
theorem qfj {α : Type} {xs : List α} {w : Nat × Nat} {z : α} (h : w.1 + w.2≤xs.length) : (clrw xs w z).length = xs.length:=by
  unfold clrw splice;simp;omega
section
variable {P : Program} {T : Tab} {base : Nat} {ops : Array Oper} {dr : Dr} {l : List Oper} {sl : List (Nat × V)} {hp : List (Nat × Blk)} {nx : Nat} {K : AS→Prop} {ty : TypeId} {pos : String} {af : Array Edge} {t : Tmp} {g : Option (Nat × Bool)}
theorem qdn {α : Type} {x y : Operand} {b : TypeId} {i : TI} {k : IntKind} {n : Int} {m es : Nat} {xs : List α} {w : Nat × Nat} {v : α} (a : idxW xs w n = some v) (p : Qr ops ⟨sl,hp,nx⟩ ⟨some t,.indexAddr b x y,ty,pos,af,g⟩ = some true) (o : T b = some i)
    (j : AS.ev ⟨sl,hp,nx⟩ x = some (.hs m es w.1 w.2)) (f : AS.ev ⟨sl,hp,nx⟩ y = some (.d (.int k n))) (r : i.kind = .slice) (q : es = i.esize)
    (h : OpsK P T base ops dr l ⟨(t,.ref m es ((w.1 : Int) + n).toNat 0)::sl,hp,nx⟩ K) : OpsK P T base ops dr (⟨some t,.indexAddr b x y,ty,pos,af,g⟩::l) ⟨sl,hp,nx⟩ K:=by
  have c : 0≤n∧n < w.2:=by
    unfold idxW at a;split at a
    · assumption
    · cases a
  refine qqa p o j f r q c.1 c.2 ?_;rw [show ((w.1 : Int) + n).toNat = w.1 + n.toNat by omega] at h;exact h
theorem qq7 {α : Type} {x : Operand} {a : TypeId} {i : TI} {n es : Nat} {xs : List α} {enc : α→List DV} (z : α) {w : Nat × Nat} (b : w.1 + w.2≤xs.length) (k : Qr ops ⟨sl,hp,nx⟩ ⟨none,.call {callee:=.builtin .clear,args:=#[x],argTypes:=#[a]},ty,pos,af,g⟩ = some true) (f : T a = some i)
    (c : AS.ev ⟨sl,hp,nx⟩ x = some (.hs n es w.1 w.2)) (hb : find hp n = some (.dat es (xs.map enc))) (o : i.kind = .slice) (j : i.esize = es) (m : i.ezero = enc z)
    (h : OpsK P T base ops dr l ⟨sl,repl hp n (.dat es ((clrw xs w z).map enc)),nx⟩ K) (p : okO dr l.length ⟨sl,hp,nx⟩ (.call {callee:=.builtin .clear,args:=#[x],argTypes:=#[a]}) ⟨sl,repl hp n (.dat es ((clrw xs w z).map enc)),nx⟩ = true:=by rfl) :
    OpsK P T base ops dr (⟨none,.call {callee:=.builtin .clear,args:=#[x],argTypes:=#[a]},ty,pos,af,g⟩::l) ⟨sl,hp,nx⟩ K:=by
  subst j;refine Kw k (v:=.d (.tup [])) (st1:=⟨sl,repl hp n (.dat i.esize ((clrw xs w z).map enc)),nx⟩) ?_ h p;simp only [opFn,evL,c,Ky];simp only [List.getElem?_toArray,List.getElem?_cons_zero,f];rw [qp ⟨o,by simp [Zi]⟩];simp only [Jc,AS.blk,hb];rw [qp ⟨by simpa using b,trivial⟩,m];simp [clrw,splice,AS.setBlk]
end
section
variable {P : Program} {T : Tab} {base : Nat} {ops : Array Oper} {dr : Dr} {l : List Oper} {sl : List (Nat × V)} {hp : List (Nat × Blk)} {nx : Nat} {K : AS→Prop} {ty : TypeId} {pos : String} {af : Array Edge} {t : Tmp} {g : Option (Nat × Bool)}
end
end Go.Am
namespace Go.Am
open Go
theorem J {α : Sort _} {a : α} : a = a:=rfl
abbrev qf (n : Int) : DV:=.int .i64 n
abbrev q9 (n : Int) : V:=.d (.int .i64 n)
abbrev Q2 (b : Bool) : V:=.d (.bool b)
section
variable {P : Program} {T : Tab} {base : Nat} {ops : Array Oper} {dr : Dr} {l : List Oper} {sl : List (Nat × V)} {hp : List (Nat × Blk)} {nx : Nat} {K : AS→Prop} {ty : TypeId} {pos : String} {af : Array Edge} {t : Tmp} {g : Option (Nat × Bool)} {v : V}
theorem U {x : Operand} (a : (Qr ops ⟨sl,hp,nx⟩ ⟨some t,.move x,ty,pos,af,g⟩,AS.ev ⟨sl,hp,nx⟩ x) = (some true,some v))
    (h : OpsK P T base ops dr l ⟨(t,v)::sl,hp,nx⟩ K) : OpsK P T base ops dr (⟨some t,.move x,ty,pos,af,g⟩::l) ⟨sl,hp,nx⟩ K:=qdp (Prod.mk.inj a).1 (Prod.mk.inj a).2 h
theorem qa {x : Operand} (a : (Qr ops ⟨sl,hp,nx⟩ ⟨some t,.assign x,ty,pos,af,g⟩,AS.ev ⟨sl,hp,nx⟩ x) = (some true,some v))
    (h : OpsK P T base ops dr l ⟨(t,v)::sl,hp,nx⟩ K) : OpsK P T base ops dr (⟨some t,.assign x,ty,pos,af,g⟩::l) ⟨sl,hp,nx⟩ K:=qq6 (Prod.mk.inj a).1 (Prod.mk.inj a).2 h
theorem O {op : Op} (v : V) (a : (Qr ops ⟨sl,hp,nx⟩ ⟨some t,op,ty,pos,af,g⟩,opFn T ⟨sl,hp,nx⟩ op) = (some true,some (v,⟨sl,hp,nx⟩))) (h : OpsK P T base ops dr l ⟨(t,v)::sl,hp,nx⟩ K)
    (b : okO dr l.length ⟨sl,hp,nx⟩ (op) ⟨sl,hp,nx⟩ = true:=by rfl) : OpsK P T base ops dr (⟨some t,op,ty,pos,af,g⟩::l) ⟨sl,hp,nx⟩ K:=qqo v (Prod.mk.inj a).1 (Prod.mk.inj a).2 h b
theorem Qh {op : Op} (n : Nat) (b : Blk) (a : (Qr ops ⟨sl,hp,nx⟩ ⟨none,op,ty,pos,af,g⟩,opFn T ⟨sl,hp,nx⟩ op) = (some true,some (.dead,⟨sl,repl hp n b,nx⟩))) (h : OpsK P T base ops dr l ⟨sl,repl hp n b,nx⟩ K) (c : okO dr l.length ⟨sl,hp,nx⟩ (op) ⟨sl,repl hp n b,nx⟩ = true:=by rfl) : OpsK P T base ops dr (⟨none,op,ty,pos,af,g⟩::l) ⟨sl,hp,nx⟩ K:=
  qqn n b (Prod.mk.inj a).1 (Prod.mk.inj a).2 h c
theorem Qn {op : Op} (v : V) (b : Blk) (a : (Qr ops ⟨sl,hp,nx⟩ ⟨some t,op,ty,pos,af,g⟩,opFn T ⟨sl,hp,nx⟩ op) = (some true,some (v,⟨sl,(nx,b)::hp,nx + 1⟩))) (h : OpsK P T base ops dr l ⟨(t,v)::sl,(nx,b)::hp,nx + 1⟩ K) (c : okO dr l.length ⟨sl,hp,nx⟩ (op) ⟨sl,(nx,b)::hp,nx + 1⟩ = true:=by rfl) : OpsK P T base ops dr (⟨some t,op,ty,pos,af,g⟩::l) ⟨sl,hp,nx⟩ K:=
  qqg v b (Prod.mk.inj a).1 (Prod.mk.inj a).2 h c
theorem qdo {α : Type} {x : Operand} {a : TypeId} {i : TI} {es : Nat} {xs : List α} {enc : α→List DV} (n : Int) (j : (xs.length : Int) = n) (k : Qr ops ⟨sl,hp,nx⟩ ⟨some t,.call {callee:=.builtin .len,args:=#[x],argTypes:=#[a]},ty,pos,af,g⟩ = some true) (f : T a = some i) (b : i.kind = .slice) (c : AS.ev ⟨sl,hp,nx⟩ x = some (.d (.sl es (xs.map enc))))
    (h : OpsK P T base ops dr l ⟨(t,.d (.int .i64 n))::sl,hp,nx⟩ K) : OpsK P T base ops dr (⟨some t,.call {callee:=.builtin .len,args:=#[x],argTypes:=#[a]},ty,pos,af,g⟩::l) ⟨sl,hp,nx⟩ K:=by
  subst j;exact qir k f b c h
theorem Qm {α : Type} {x y : Operand} {a : TypeId} {i : TI} {k : IntKind} {n : Int} {es : Nat} {xs : List α} {enc : α→List DV} {v : α} (j : idx xs n = some v)
    (b : (Qr ops ⟨sl,hp,nx⟩ ⟨some t,.indexAddr a x y,ty,pos,af,g⟩,T a,AS.ev ⟨sl,hp,nx⟩ x,AS.ev ⟨sl,hp,nx⟩ y,i.kind,es) = (some true,some i,some (.d (.sl es (xs.map enc))),some (.d (.int k n)),.slice,i.esize))
    (h : OpsK P T base ops dr l ⟨(t,.dref (enc v) 0)::sl,hp,nx⟩ K) : OpsK P T base ops dr (⟨some t,.indexAddr a x y,ty,pos,af,g⟩::l) ⟨sl,hp,nx⟩ K:=by
  simp only [Prod.mk.injEq] at b;obtain ⟨o,m,c,p,q,f⟩:=b;exact qqc j o m c p q f h
theorem qs {α : Type} {x y : Operand} {a : TypeId} {i : TI} {k : IntKind} {n : Int} {m es len : Nat} {xs : List α} {v : α} (j : idx xs n = some v) (o : len = xs.length)
    (b : (Qr ops ⟨sl,hp,nx⟩ ⟨some t,.indexAddr a x y,ty,pos,af,g⟩,T a,AS.ev ⟨sl,hp,nx⟩ x,AS.ev ⟨sl,hp,nx⟩ y,i.kind,es) = (some true,some i,some (.hs m es 0 len),some (.d (.int k n)),.slice,i.esize))
    (h : OpsK P T base ops dr l ⟨(t,.ref m es n.toNat 0)::sl,hp,nx⟩ K) : OpsK P T base ops dr (⟨some t,.indexAddr a x y,ty,pos,af,g⟩::l) ⟨sl,hp,nx⟩ K:=by
  simp only [Prod.mk.injEq] at b;obtain ⟨q,p,c,r,s,f⟩:=b;exact qqb j o q p c r s f h
theorem Q9 {α : Type} {p : Operand} {a : TypeId} {i : TI} {m es j : Nat} {n : Int} {xs : List α} {enc : α→List DV} {r : List DV} {v : α} (w : V) (k : idx xs n = some v)
    (b : (Qr ops ⟨sl,hp,nx⟩ ⟨some t,.load a p,ty,pos,af,g⟩,T a,AS.ev ⟨sl,hp,nx⟩ p,find hp m,sub (enc v) j i.size,(q1b i.agg r).map V.d) = (some true,some i,some (.ref m es n.toNat j),some (.dat es (xs.map enc)),some r,some w))
    (h : OpsK P T base ops dr l ⟨(t,w)::sl,hp,nx⟩ K) (u : okF dr l.length (fp ⟨sl,hp,nx⟩ (.load a p)) = true:=by rfl) : OpsK P T base ops dr (⟨some t,.load a p,ty,pos,af,g⟩::l) ⟨sl,hp,nx⟩ K:=by
  simp only [Prod.mk.injEq] at b;obtain ⟨q,o,c,s,x,f⟩:=b;exact qqf w k q o c s x f h u
theorem K0 {α : Type} {x : Operand} {a : TypeId} {i : TI} {es : Nat} {xs : List α} {enc : α→List DV}
    (b : (Qr ops ⟨sl,hp,nx⟩ ⟨some t,.call {callee:=.builtin .len,args:=#[x],argTypes:=#[a]},ty,pos,af,g⟩,T a,i.kind,AS.ev ⟨sl,hp,nx⟩ x) = (some true,some i,.slice,some (.d (.sl es (xs.map enc)))))
    (h : OpsK P T base ops dr l ⟨(t,.d (.int .i64 (xs.length : Int)))::sl,hp,nx⟩ K) : OpsK P T base ops dr (⟨some t,.call {callee:=.builtin .len,args:=#[x],argTypes:=#[a]},ty,pos,af,g⟩::l) ⟨sl,hp,nx⟩ K:=by
  simp only [Prod.mk.injEq] at b;obtain ⟨j,k,c,f⟩:=b;exact qir j k c f h
theorem Q3 {c : Call} {f : FuncId} {ds : List DV} {r : DV} {a : List V} (b : Pure P T f ds r) (j : (Qr ops ⟨sl,hp,nx⟩ ⟨some t,.call c,ty,pos,af,g⟩,callee ⟨sl,hp,nx⟩ c,Ki hp a,a.all V.isD) = (some true,some (f,a),some ds,true))
    (h : OpsK P T base ops dr l ⟨(t,.d r)::sl,hp,nx⟩ K) (n : okF dr l.length (fpC a) = true:=by rfl) : OpsK P T base ops dr (⟨some t,.call c,ty,pos,af,g⟩::l) ⟨sl,hp,nx⟩ K:=by
  simp only [Prod.mk.injEq] at j;obtain ⟨p,o,k,m⟩:=j;exact qap a b p o k (.inl m) h n
theorem Q5 {st : AS} {b : List ResultVar} {r : DV} (v : V) (a : (resV T st b,toD st.hp 8 v) = (some v,some r)) : (Ex.ret = .nor∨Ex.ret = .ret)∧∃ v c,resV T st b = some v∧toD st.hp 8 v = some c∧DLe c r:=by
  simp only [Prod.mk.injEq] at a;exact ⟨.inr rfl,v,r,a.1,a.2,.refl _⟩
theorem qc {id : Nat} {ops : Array Oper} {b : Code} {cs : List Code} {st : AS} {K : Ex→AS→Prop} (h : OpsK P T base ops none ops.toList st (fun st'=>RunK P T base (b::cs) st' K)) : RunK P T base (.seq (.region id ops false) b::cs) st K:=qe (Q1 h)
theorem qx {a ops : Array Oper} {id : Nat} {b : Code} {cs : List Code} {st : AS} {K : Ex→AS→Prop} (h : OpsK P T base ops none ops.toList st (fun st'=>RunK P T base (b::cs) st' K)) : OpsK P T base a dr [] st (fun st'=>RunK P T base (.seq (.region id ops false) b::cs) st' K):=q8 (qe (Q1 h))
theorem qu {a : Array Oper} {cs : List Code} {st : AS} {K : Ex→AS→Prop} (h : K .ret st) : OpsK P T base a dr [] st (fun st'=>RunK P T base (.ret::cs) st' K):=q8 (q3r h)
theorem qz {a : Array Oper} {st : AS} {K : Ex→AS→Prop} (h : K .nor st) : OpsK P T base a dr [] st (fun st'=>RunK P T base [] st' K):=q8 (Qj h)
theorem K9 {dst : Option Tmp} {c : Call} {f : FuncId} {o : List V} {hp0 j : List (Nat × Blk)} {k s : Nat} {vR : V} (m p : List (Nat × Nat)) (r : List V) (t : V) (n : Nat) (a : List (Nat × Blk)) (b : Nat) (y : K6 P T f o hp0 k vR j s)
    (h : OpsK P T base ops none l ((⟨sl,a,b⟩ : AS).putD dst t) K)
    (z : Qr ops ⟨sl,hp,nx⟩ ⟨dst,.call c,ty,pos,af,g⟩ = some true:=by exact rfl) (hc : callee ⟨sl,hp,nx⟩ c = some (f,r):=by exact rfl) (q : r.length = o.length:=by exact rfl)
    (o1 : wkOk 0 m [] [] hp0 k = true:=by exact rfl)
    (u : WkL ⟨Ku 0 r,hp,nx⟩ (rho m) [] [] k (Ku 0 o):=by
      repeat' first | exact trivial | refine And.intro (Exists.intro _ (And.intro rfl ?_)) ?_ | exact Wv.d (DLe.refl _) | exact Wv.ref rfl qt (ltd rfl) | exact Wv.mp rfl qt (ltd rfl) | exact Wv.hs rfl qt (ltd rfl) | exact Wv.d (DLe.nil _) | refine qbs ?_ | refine qer ?_ | refine q48 ?_ | refine WvL.cons ?_ ?_ | exact WvL.nil | exact Wv.dref _ _ | exact Wv.yld rfl qt (ltd rfl))
    (b1 : WkH ⟨Ku 0 r,hp,nx⟩ (rho m) [] [] k hp0:=by
      repeat' first | exact trivial | refine And.intro (And.intro (ltd rfl) (Or.inr (And.intro qt (Exists.intro _ (And.intro rfl ?_))))) ?_ | exact Wb.dat _ _ | exact Wb.mp _ | refine Un ?_ | refine qen ?_ | refine WvC.cons ?_ rfl ?_ | exact WvC.nil | exact Wv.d (DLe.refl _) | exact Wv.ref rfl qt (ltd rfl) | exact Wv.mp rfl qt (ltd rfl) | exact Wv.hs rfl qt (ltd rfl) | exact Wv.d (DLe.nil _))
    (x : wkOk 0 p [] [] (a.take n) b = true:=by exact rfl)
    (s3 : WkL ⟨[(0,vR)],j,s⟩ (rho p) [] [] b [(0,t)]:=by
      repeat' first | exact trivial | refine And.intro (Exists.intro _ (And.intro rfl ?_)) ?_ | exact Wv.d (DLe.refl _) | exact Wv.ref rfl qt (ltd rfl) | exact Wv.mp rfl qt (ltd rfl) | exact Wv.hs rfl qt (ltd rfl) | exact Wv.d (DLe.nil _) | refine qbs ?_ | refine qer ?_ | refine q48 ?_ | refine WvL.cons ?_ ?_ | exact WvL.nil | exact Wv.dref _ _ | exact Wv.yld rfl qt (ltd rfl))
    (v : WkH ⟨[(0,vR)],j,s⟩ (rho p) [] [] b (a.take n):=by
      repeat' first | exact trivial | refine And.intro (And.intro (ltd rfl) (Or.inr (And.intro qt (Exists.intro _ (And.intro rfl ?_))))) ?_ | exact Wb.dat _ _ | exact Wb.mp _ | refine Un ?_ | refine qen ?_ | refine WvC.cons ?_ rfl ?_ | exact WvC.nil | exact Wv.d (DLe.refl _) | exact Wv.ref rfl qt (ltd rfl) | exact Wv.mp rfl qt (ltd rfl) | exact Wv.hs rfl qt (ltd rfl) | exact Wv.d (DLe.nil _))
    (hb : q6y m p k s nx b = true:=by exact rfl)
    (hold : OldL m k hp (a.take n) a:=by repeat' first | exact trivial | refine And.intro (Or.inl rfl) ?_ | refine And.intro (Or.inr (And.intro rfl rfl)) ?_) :
    OpsK P T base ops none (⟨dst,.call c,ty,pos,af,g⟩::l) ⟨sl,hp,nx⟩ K:=
  Ud m p r t (a.take n) a b y z hc q (Yn m [] [] o1 u b1) (Yn p [] [] x s3 v) hb hold h
end
inductive WvR (st : AS) (ρ : Nat→Nat) (fz ph : List Nat) (nx : Nat) : List (List V)→List (List V)→Prop
  | nil : WvR st ρ fz ph nx [] []
  | cons {c d : List V} {cs ds : List (List V)} : WvC st ρ fz ph nx c d→WvR st ρ fz ph nx cs ds→WvR st ρ fz ph nx (c::cs) (d::ds)
theorem WvR.len {st : AS} {ρ : Nat→Nat} {fz ph : List Nat} {nx : Nat} {cs ds : List (List V)} (h : WvR st ρ fz ph nx cs ds) : cs.length = ds.length:=by
  induction h with
  | nil=>rfl
  | cons _ _ ih=>simp [ih]
theorem WvR.get {st : AS} {ρ : Nat→Nat} {fz ph : List Nat} {nx : Nat} {cs ds : List (List V)} (h : WvR st ρ fz ph nx cs ds) : ∀ (j : Nat) (c d : List V),cs[j]? = some c→ds[j]? = some d→WvC st ρ fz ph nx c d:=by
  induction h with
  | nil=>intro i x y h;simp at h
  | cons h1 _ ih=>
    intro i x y b a
    cases i with
    | zero=>simp at b a;subst b;subst a;exact h1
    | succ i=>exact ih i x y (by simpa using b) (by simpa using a)
theorem qz5 {st : AS} {ρ : Nat→Nat} {fz ph : List Nat} {nx es : Nat} {cs ds : List (List V)} (h : WvR st ρ fz ph nx cs ds) : Wb st ρ fz ph nx (.cel es cs) (.cel es ds):=
  .cel h.len fun i x y b a=>⟨(h.get i x y b a).len,(h.get i x y b a).get⟩
theorem qz6 {st : AS} {ρ : Nat→Nat} {fz ph : List Nat} {nx es : Nat} {cs : List (List DV)} {ds : List (List V)} (h : WvR st ρ fz ph nx (cs.map (·.map .d)) ds) : Wb st ρ fz ph nx (.dat es cs) (.cel es ds):=by
  refine .datcel (by simpa using h.len) fun i x y f b=>?_;have a:=h.get i (x.map .d) y (by simp [f]) b;refine ⟨by simpa using a.len,fun j c d g hd=>a.get j (.d c) d (by simp [g]) hd⟩
theorem wkA {base : Nat} {st st' : AS} (l : List (Nat × Nat)) (fz ph : List Nat) (a : wkOk base l fz ph st'.hp st'.nx = true:=by exact rfl)
    (hs : WkL st (rho l) fz ph st'.nx st'.sl:=by
      repeat' first | exact trivial | refine And.intro (Exists.intro _ (And.intro rfl ?_)) ?_ | exact Wv.d (DLe.refl _) | exact Wv.ref rfl qt (ltd rfl) | exact Wv.mp rfl qt (ltd rfl) | exact Wv.hs rfl qt (ltd rfl) | exact Wv.d (DLe.nil _) | exact Wv.nil qt (ltd rfl) | exact qli rfl rfl qt | refine qbs ?_ | refine qzc ?_ | refine qer ?_ | refine qzd ?_ | refine q48 ?_ | refine WvL.cons ?_ ?_ | exact WvL.nil | exact Wv.dref _ _ | exact Wv.yld rfl qt (ltd rfl))
    (b : WkH st (rho l) fz ph st'.nx st'.hp:=by
      repeat' first | exact trivial | refine And.intro (And.intro (ltd rfl) (Or.inr (And.intro qt (Exists.intro _ (And.intro rfl ?_))))) ?_ | refine And.intro (And.intro (ltd rfl) (Or.inl (And.intro qt (Exists.intro _ (And.intro qt rfl))))) ?_ | exact Wb.dat _ _ | exact Wb.mp _ | refine Un ?_ | refine qen ?_ | refine qz5 ?_ | refine qz6 ?_ | refine WvR.cons ?_ ?_ | exact WvR.nil | refine qz7 ?_ | refine WvS.cons rfl ?_ ?_ | exact WvS.nil | refine WvC.cons ?_ rfl ?_ | exact WvC.nil | exact Wv.d (DLe.refl _) | exact Wv.ref rfl qt (ltd rfl) | exact Wv.mp rfl qt (ltd rfl) | exact Wv.hs rfl qt (ltd rfl) | exact Wv.d (DLe.nil _) | exact Wv.nil qt (ltd rfl) | exact qli rfl rfl qt | refine q48 ?_ | refine qbs ?_ | refine WvL.cons ?_ ?_ | exact WvL.nil | exact Wv.yld rfl qt (ltd rfl)) : WkE base st st':=wkE l fz ph a hs b
theorem qk {st : AS} {ρ : Nat→Nat} {fz ph : List Nat} {nx t : Nat} {x : DV} (h : st.get t = some (.d x)) : ∃ v,st.get t = some v∧Wv st ρ fz ph nx v (.d x):=⟨_,h,.d (.refl _)⟩
theorem Qp {st : AS} {ρ : Nat→Nat} {fz ph : List Nat} {nx n es : Nat} {xs : List (List DV)} (d : Nat.blt n nx = true) (a : st.blk (ρ n) = some (.dat es xs)) (c : n ∉ ph:=by decide) :
    n < nx∧((n∈ph∧∃ e,e≠0∧(Blk.dat es xs) = .dat e [])∨(n ∉ ph∧∃ b,st.blk (ρ n) = some b∧Wb st ρ fz ph nx b (.dat es xs))):=⟨ltd d,.inr ⟨c,_,a,.dat _ _⟩⟩
abbrev q0 : Option (List Nat) × List Nat:=(some [],[])
abbrev qv (n : Nat) : Option (List Nat) × List Nat:=(some [n],[])
abbrev Qs (n : Nat) : Option (List Nat) × List Nat:=(some [n],[n])
end Go.Am
namespace Go.Am
open Go
inductive DLeR : List (List DV)→List (List DV)→Prop
  | nil : DLeR [] []
  | cons {x y : List DV} {xs ys : List (List DV)} : DLeL x y→DLeR xs ys→DLeR (x::xs) (y::ys)
section
variable {P : Program} {T : Tab} {base : Nat} {ops : Array Oper} {dr : Dr} {l : List Oper} {sl : List (Nat × V)} {hp : List (Nat × Blk)} {nx : Nat} {K : AS→Prop} {ty : TypeId} {pos : String} {af : Array Edge} {t : Tmp} {g : Option (Nat × Bool)}
end
end Go.Am
