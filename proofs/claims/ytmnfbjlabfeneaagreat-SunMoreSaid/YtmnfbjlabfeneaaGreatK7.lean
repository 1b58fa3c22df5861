/- Su2 Su3 Su4 Lf2 Lf3 Lf4 Lf5 Lf6 -/
import Derived.Test.YtmnfbjlabfeneaaGreatK6
namespace Go.Sh
open Go Go.Am
def inAx (lo hi p d : Int) (t : Rat) : Prop:=(2 * lo - p : Int) < 2 * (d : Rat) * t∧2 * (d : Rat) * t < (2 * hi - p : Int)
def q5t (lo hi p d : Int) : Rat:=if 0 < d then fr (2 * lo - p) (2 * d) else fr (-(2 * hi - p)) (-(2 * d))
def farA (lo hi p d : Int) : Rat:=if 0 < d then fr (2 * hi - p) (2 * d) else fr (-(2 * lo - p)) (-(2 * d))
theorem qry {n m : Int} (a : 0 < m) : fr n m * (m : Rat) = n:=by
  unfold fr;have : (0 : Rat) < m:=by exact_mod_cast a
  grind
theorem qkp {lo hi p : Int} {t : Rat} : inAx lo hi p 0 t↔2 * lo < p∧p < 2 * hi:=by
  unfold inAx;have e : 2 * ((0 : Int) : Rat) * t = ((0 : Int) : Rat):=by rw [show ((0 : Int) : Rat) = 0 from rfl];grind
  rw [e,q5h,q5h];omega
theorem qfn {lo hi p d : Int} (hd : d≠0) {t : Rat} : inAx lo hi p d t↔q5t lo hi p d < t∧t < farA lo hi p d:=by
  unfold inAx q5t farA;by_cases h : 0 < d
  · rw [qr h,qr h];have a : (0 : Rat) < ((2 * d : Int) : Rat):=by exact_mod_cast (by omega : (0 : Int) < 2 * d)
    have e : ((2 * d : Int) : Rat) = 2 * (d : Rat):=by rw [Rat.intCast_mul];rfl
    have b : fr (2 * lo - p) (2 * d) < t↔((2 * lo - p : Int) : Rat) < t * ((2 * d : Int) : Rat):=Rat.div_lt_iff a;have c : t < fr (2 * hi - p) (2 * d)↔t * ((2 * d : Int) : Rat) < ((2 * hi - p : Int) : Rat):=Rat.lt_div_iff a;rw [b,c,e,show 2 * (d : Rat) * t = t * (2 * (d : Rat)) by grind]
  · rw [qs h,qs h];have a : (0 : Rat) < ((-(2 * d) : Int) : Rat):=by exact_mod_cast (by omega : (0 : Int) < -(2 * d))
    have e : ((-(2 * d) : Int) : Rat) = -(2 * (d : Rat)):=by rw [Rat.intCast_neg,Rat.intCast_mul];rfl
    have b : fr (-(2 * hi - p)) (-(2 * d)) < t↔((-(2 * hi - p) : Int) : Rat) < t * ((-(2 * d) : Int) : Rat):=Rat.div_lt_iff a;have c : t < fr (-(2 * lo - p)) (-(2 * d))↔t * ((-(2 * d) : Int) : Rat) < ((-(2 * lo - p) : Int) : Rat):=Rat.lt_div_iff a;rw [b,c,e,Rat.intCast_neg,Rat.intCast_neg];constructor
    · rintro ⟨g,f⟩;constructor <;> grind
    · rintro ⟨g,f⟩;constructor <;> grind
abbrev AxL:=List (Int × Int × Int × Int)
def q2o (l : AxL) (t : Rat) : Prop:=∀ a∈l,inAx a.1 a.2.1 a.2.2.1 a.2.2.2 t
def Uf (l : AxL) : Prop:=∀ a∈l,a.2.2.2 = 0→2 * a.1 < a.2.2.1∧a.2.2.1 < 2 * a.2.1
def loT : AxL→Rat
  | []=>0
  | a::r=>if a.2.2.2 = 0 then loT r else max (q5t a.1 a.2.1 a.2.2.1 a.2.2.2) (loT r)
def hiT : AxL→Option Rat
  | []=>none
  | a::r=>if a.2.2.2 = 0 then hiT r else some (match hiT r with | none=>farA a.1 a.2.1 a.2.2.1 a.2.2.2 | some h=>min (farA a.1 a.2.1 a.2.2.1 a.2.2.2) h)
theorem qxf {a b c : Rat} : max a b < c↔a < c∧b < c:=by
  constructor
  · intro h;constructor <;> grind
  · rintro ⟨d,f⟩;grind
theorem qxe {a b c : Rat} : c < min a b↔c < a∧c < b:=by
  constructor
  · intro h;constructor <;> grind
  · rintro ⟨d,f⟩;grind
theorem qc7 : ∀ l : AxL,0≤loT l
  | []=>by simp [loT]
  | a::r=>by
    have:=qc7 r
    unfold loT
    split
    · exact this
    · grind
theorem ql6 {t : Rat} (c : 0 < t) : ∀ l : AxL,loT l < t↔∀ a∈l,a.2.2.2≠0→q5t a.1 a.2.1 a.2.2.1 a.2.2.2 < t
  | []=>by simp [loT,c]
  | a::r=>by
    have d:=ql6 c r
    unfold loT
    split
    · rename_i b
      rw [d];simp [b]
    · rename_i b
      rw [qxf,d];simp [b]
theorem qki {t : Rat} : ∀ l : AxL,(∀ h,hiT l = some h→t < h)↔∀ a∈l,a.2.2.2≠0→t < farA a.1 a.2.1 a.2.2.1 a.2.2.2
  | []=>by simp [hiT]
  | a::r=>by
    have c:=qki (t:=t) r
    unfold hiT
    by_cases b : a.2.2.2 = 0
    · rw [qr b,c];simp [b]
    · rw [qs b]
      simp only [Option.some.injEq,forall_eq',List.mem_cons,forall_eq_or_imp,ne_eq,b,not_false_eq_true,true_imp_iff]
      rw [← show (∀ h,hiT r = some h→t < h)↔∀ a∈r,¬a.2.2.2 = 0→t < farA a.1 a.2.1 a.2.2.1 a.2.2.2 from c]
      cases d : hiT r with
      | none=>simp
      | some q=>simp only [qxe,Option.some.injEq,forall_eq']
theorem qfm {l : AxL} {h : Rat} (m : hiT l = some h) {t : Rat} (n : 0 < t) : q2o l t↔Uf l∧loT l < t∧t < h:=by
  have k:=ql6 n l;have d:=qki (t:=t) l;rw [m] at d;simp only [Option.some.injEq,forall_eq'] at d;rw [k,d];constructor
  · intro g;refine ⟨fun a c b=>?_,fun a c b=>((qfn b).1 (g a c)).1,fun a c b=>((qfn b).1 (g a c)).2⟩;have:=g a c;rw [b,qkp] at this;exact this
  · rintro ⟨j,f,o⟩ a c;by_cases b : a.2.2.2 = 0
    · rw [b,qkp];exact j a c b
    · exact (qfn b).2 ⟨f a c b,o a c b⟩
theorem qff : ∀ {l : AxL},(∃ a∈l,a.2.2.2≠0)→∃ h,hiT l = some h
  | a::r,⟨b,hb,h0⟩=>by
    unfold hiT
    by_cases c : a.2.2.2 = 0
    · rw [qr c]
      rcases List.mem_cons.1 hb with rfl | hb
      · exact absurd c h0
      · exact qff ⟨b,hb,h0⟩
    · rw [qs c];exact ⟨_,rfl⟩
end Go.Sh
namespace Go.Sh
open Go Go.Am
open Classical in
noncomputable def hitT (l : AxL) : Option Rat:=match hiT l with
  | none=>none
  | some h=>if Uf l∧loT l < h then some (loT l) else none
def LowT (n m : Int) : Prop:=0 < m∧Int.gcd n m = 1
theorem qj4 {b a d : Int} (h : b ∣ a * d) (f : Int.gcd b a = 1) : b ∣ d:=by
  have c : b.natAbs ∣ a.natAbs * d.natAbs:=by rw [← Int.natAbs_mul];exact Int.natAbs_dvd_natAbs.2 h
  exact Int.natAbs_dvd_natAbs.1 (Nat.Coprime.dvd_of_dvd_mul_left (show Nat.Coprime b.natAbs a.natAbs from f) c)
theorem qtg {a b c d : Int} (o : LowT a b) (m : LowT c d) (h : fr a b = fr c d) : a = c∧b = d:=by
  obtain ⟨hb,l⟩:=o;obtain ⟨hd,j⟩:=m;have e:=(qk0 hb hd).1 h
  have n : b ∣ d:=by
    have : b ∣ a * d:=⟨c,by rw [e,Int.mul_comm]⟩
    have f : Int.gcd b a = 1:=by rw [Int.gcd_comm];exact l
    exact qj4 this f
  have k : d ∣ b:=by
    have : d ∣ c * b:=⟨a,by rw [← e,Int.mul_comm]⟩
    have f : Int.gcd d c = 1:=by rw [Int.gcd_comm];exact j
    exact qj4 this f
  have g : b = d:=Int.le_antisymm (Int.le_of_dvd hd n) (Int.le_of_dvd hb k);subst g;exact ⟨Int.eq_of_mul_eq_mul_right q0 e,rfl⟩
theorem ql9 {n m : Int} (l : 0 < m) : LowT (n / (Int.gcd n m : Int)) (m / (Int.gcd n m : Int))∧fr (n / (Int.gcd n m : Int)) (m / (Int.gcd n m : Int)) = fr n m:=by
  have k : 0 < Int.gcd n m:=Int.gcd_pos_of_ne_zero_right n q0;have j : (0 : Int) < (Int.gcd n m : Int):=by omega
  obtain ⟨a,f⟩:=Int.gcd_dvd_left (a:=n) (b:=m);obtain ⟨b,hb⟩:=Int.gcd_dvd_right (a:=n) (b:=m);generalize d : Int.gcd n m = g at *;have p : n / (g : Int) = a:=by rw [f];exact Int.mul_ediv_cancel_left a q0
  have q : m / (g : Int) = b:=by rw [hb];exact Int.mul_ediv_cancel_left b q0
  rw [p,q]
  have c : 0 < b:=by
    refine Classical.byContradiction fun h=>?_;have : (g : Int) * b≤0:=Int.mul_nonpos_of_nonneg_of_nonpos q0 q0;omega
  refine ⟨⟨c,?_⟩,(qk0 c l).2 (by rw [f,hb];ac_rfl)⟩;have : Int.gcd ((g : Int) * a) ((g : Int) * b) = g * Int.gcd a b:=by rw [Int.gcd_mul_left];simp
  rw [← f,← hb,d] at this;have o : g * 1 = g * Int.gcd a b:=by omega
  exact (Nat.eq_of_mul_eq_mul_left k o).symm
end Go.Sh
namespace Go.Sh
open Go Go.Am
theorem qrj {f : Int × Int→Option ((Int × Int) ⊕ Int)} (N : Nat) (hs : ∀ a b : Nat,a≤N→b≤N→f ((a : Int),(b : Int)) = some (if b = 0 then .inr (a : Int) else .inl ((b : Int),((a % b : Nat) : Int)))) :
    ∀ (b a : Nat),a≤N→b≤N→loop f ((a : Int),(b : Int)) = some ((Nat.gcd a b : Nat) : Int):=by
  intro b
  induction b using Nat.strongRecOn with
  | ind b ih=>
    intro a g hb;have h:=hs a b g hb;by_cases d : b = 0
    · subst d;rw [qr rfl] at h;rw [Ke h,Nat.gcd_zero_right]
    · rw [qs d] at h;have c : a % b < b:=Nat.mod_lt _ q0;rw [Kq h,ih (a % b) c b hb q0,Nat.gcd_comm b,← Nat.gcd_rec,Nat.gcd_comm]
end Go.Sh
namespace Go.Am
open Go
theorem q143 {k : IntKind} {d : DV} (h : Ty (.int k) d) : ∃ n : Int,d = .int k n∧(Lit.int k n).wf = true:=by
  cases h with | int hw=>exact ⟨_,rfl,hw⟩
def q54 (l : List CT) (x : List DV) : Prop:=x.length = l.length∧∀ (j : Nat) (c : CT) (d : DV),l[j]? = some c→x[j]? = some d→Ty c d
theorem q13z {x : List DV} (h : q54 [] x) : x = []:=List.length_eq_zero_iff.1 h.1
theorem q13y {c : CT} {l : List CT} {x : List DV} (h : q54 (c::l) x) : ∃ d r,x = d::r∧Ty c d∧q54 l r:=by
  obtain ⟨b,a⟩:=h
  cases x with
  | nil=>simp at b
  | cons d r=>exact ⟨d,r,rfl,a 0 c d rfl rfl,by simpa using b,fun j g f k hd=>a (j + 1) g f (by simpa using k) (by simpa using hd)⟩
theorem q144 {α : Type} {l : List CT} {enc : α→List DV} {wf : α→Prop} (row : ∀ x,q54 l x→∃ a,x = enc a∧wf a) {d : DV} (h : Ty (.sl l) d) : ∃ xs : List α,DLe d (.sl l.length (xs.map enc))∧(∀ x∈xs,wf x)∧xs.length≤maxLen:=by
  cases h with
  | nil=>exact ⟨[],.nil _,qe,qe⟩
  | @sl _ xs hl h1 h2=>
    have key : ∀ ys : List (List DV),(∀ y∈ys,q54 l y)→∃ zs : List α,ys = zs.map enc∧∀ z∈zs,wf z:=by
      intro ys
      induction ys with
      | nil=>intro _;exact ⟨[],rfl,qe⟩
      | cons y ys ih=>
        intro f;obtain ⟨a,rfl,g⟩:=row y (f y qe);obtain ⟨zs,rfl,b⟩:=ih fun z b=>f z (by simp [b]);exact ⟨a::zs,rfl,by simpa using ⟨g,b⟩⟩
    obtain ⟨zs,rfl,b⟩:=key xs fun y f=>by
      obtain ⟨i,hi⟩:=List.getElem?_of_mem f;exact ⟨h1 i y hi,fun j c d k hd=>h2 i y j c d hi k hd⟩
    exact ⟨zs,.refl _,b,by simpa using hl⟩
theorem q145 {n : Int} (h : (Lit.int .i64 n).wf = true) : -9223372036854775808≤n∧n≤9223372036854775807:=by
  simp [Lit.wf,IntKind.min,IntKind.max,IntKind.signed,IntKind.bits] at h;omega
theorem q13q {xs : List DV} (h : Jm [] xs) : xs = []:=by cases h;rfl
theorem q13r {c : CT} {a : List (Bool × List CT)} {xs : List DV} (h : Jm ((false,[c])::a) xs) : ∃ d r,xs = d::r∧Ty c d∧Jm a r:=by
  cases h with | one h1 h2=>exact ⟨_,_,rfl,h1,h2⟩
theorem q13p {l : List CT} {a : List (Bool × List CT)} {xs : List DV} (h : Jm ((true,l)::a) xs) : ∃ x r,xs = .agg x::r∧q54 l x∧Jm a r:=by
  cases h with | agg h1 h2 h3=>exact ⟨_,_,rfl,⟨h1,h2⟩,h3⟩
end Go.Am
namespace Go.Am
open Go
theorem RunK.toEv {P : Program} {T : Tab} {base : Nat} {c : Code} {st : AS} {K : Ex→AS→Prop} (h : RunK P T base [c] st K) : ∃ ex st',Kl P T base c st ex st'∧K ex st':=q59 h
section
variable {P : Program} {T : Tab} {base : Nat} {ops : Array Oper} {l : List Oper} {sl : List (Nat × V)} {hp : List (Nat × Blk)} {nx : Nat} {K : AS→Prop} {ty : TypeId} {pos : String} {af : Array Edge} {dst : Option Tmp} {g : Option (Nat × Bool)}
theorem q41 {β : Type} {c : Call} {f : FuncId} {fn : Func} {d : Code} (k : List V) (E : β→Prop) (S : β→AS) (s : Qw ops ⟨sl,hp,nx⟩ ⟨dst,.call c,ty,pos,af,g⟩ = some true) (y : callee ⟨sl,hp,nx⟩ c = some (f,k))
    (o : P.funcs[f]? = some fn) (hb : fn.body = some d) (a : (fn.name == "runtime.NumGoroutine") = false) (j : codeOk fn.ntmps d = true) (p : Nat.ble k.length fn.ntmps = true)
    (h : RunK P T nx [d] ⟨Y4 0 k,hp,nx⟩ (fun ex st'=>(ex = .nor∨ex = .ret)∧∃ v,resV T st' fn.results.toList = some v∧∃ b,E b∧WkE base ((⟨sl,st'.hp,st'.nx⟩ : AS).putD dst v) (S b)))
    (q : ∀ b,E b→OpsK P T base ops none l (S b) K) : OpsK P T base ops none (⟨dst,.call c,ty,pos,af,g⟩::l) ⟨sl,hp,nx⟩ K:=by
  obtain ⟨ex,st',e,t,v,x,b,m,n⟩:=h.toEv;obtain ⟨st2,r,u⟩:=q b m;obtain ⟨ρ,fz,ph,w⟩:=n;exact ⟨st2,.callS s rfl y (.mk o hb a j (by simpa using p) e t x) (.wk w r),u⟩
theorem q5v {β : Type} {c : Call} {gf : Operand} {n : Nat} {t : List V} {s : List (Nat × V)} {f : List Tmp} {assign body A B : Code} (E : β→Prop) (S : β→AS) (hA : assign = A) (hB : body = B) (hg : Qw ops ⟨sl,hp,nx⟩ ⟨dst,.call c,ty,pos,af,g⟩ = some true)
    (m : c.callee = .value gf) (q : AS.ev ⟨sl,hp,nx⟩ gf = some (.yld n)) (y : evL (AS.ev ⟨sl,hp,nx⟩) c.args.toList = some t) (hb : find hp n = some (.loop s f A B .ready none)) (hl : f.length = t.length)
    (h : RunK P T nx [assign] ⟨q1u s f t,hp,nx⟩ (fun ex st1=>ex = .nor∧∃ u,find st1.hp n = some (.loop u f A B .ready none)∧
      RunK P T nx [body] (st1.setBlk n (.loop u f A B .busy none)) (fun ex st2=>∃ k,find st2.hp n = some (.loop k f A B .busy none)∧match ex with
        | .nor=>∃ b,E b∧WkE base ((⟨sl,repl st2.hp n (.loop k f A B .ready none),st2.nx⟩ : AS).putD dst (.d (.bool true))) (S b)
        | ex=>OpsK P T base ops none l ((⟨sl,repl st2.hp n (.loop k f A B .done ex.code),st2.nx⟩ : AS).putD dst (.d (.bool false))) K)))
    (hr : ∀ b,E b→OpsK P T base ops none l (S b) K) : OpsK P T base ops none (⟨dst,.call c,ty,pos,af,g⟩::l) ⟨sl,hp,nx⟩ K:=by
  subst hA hB;obtain ⟨ae,st1,e1,rfl,u,z,o⟩:=h.toEv;obtain ⟨ex,st2,e2,k,v,r⟩:=o.toEv
  have key : ∀ a,Ki P T base ops none l ((⟨sl,repl st2.hp n (.loop k f assign body (if ex = .nor then .ready else .done) ex.code),st2.nx⟩ : AS).putD dst (.d (.bool (decide (ex = .nor))))) a→Ki P T base ops none (⟨dst,.call c,ty,pos,af,g⟩::l) ⟨sl,hp,nx⟩ a:=
    fun a h3=>.callY hg rfl m q y hb hl e1 z e2 v h3
  cases ex with
  | nor=>
    obtain ⟨b,x,ρ,fz,ph,w⟩:=r;obtain ⟨a,p,j⟩:=hr b x;exact ⟨a,key a (.wk w p),j⟩
  | exit i=>
    obtain ⟨a,p,j⟩:=r;exact ⟨a,key a p,j⟩
  | ret=>
    obtain ⟨a,p,j⟩:=r;exact ⟨a,key a p,j⟩
end
section
variable {P : Program} {T : Tab} {base : Nat} {cs : List Code} {sl : List (Nat × V)} {hp : List (Nat × Blk)} {nx : Nat} {K : Ex→AS→Prop}
def qe6 (P : Program) (T : Tab) (base : Nat) (cs : List Code) (K : Ex→AS→Prop) : Ex→AS→Prop:=qb0 (fun st'=>RunK P T base cs st' K) K
theorem q6m {k : Operand} {n : Array Tmp} {assign body : Code} {f : FuncId} {fn : Func} {j : Code} (a : List V)
    (t : AS.ev ⟨sl,hp,nx⟩ k = some (.fn f a)∨∃ ds,AS.ev ⟨sl,hp,nx⟩ k = some (.d (.fn f ds))∧a = ds.map .d)
    (o : P.funcs[f]? = some fn) (hb : fn.body = some j) (g : (fn.name == "runtime.NumGoroutine") = false) (m : codeOk fn.ntmps j = true) (p : Nat.ble (a.length + 1) fn.ntmps = true)
    (h : ∀ A B,assign = A→body = B→RunK P T (nx + 1) [j] ⟨Y4 0 (.yld nx::a),(nx,.loop sl n.toList A B .ready none)::hp,nx + 1⟩ (fun c b=>(c = .nor∨c = .ret)∧∃ v,resV T b fn.results.toList = some v∧
      ∃ (s : List (Nat × V)) (l : LoopState) (ex : Ex),find b.hp nx = some (.loop s n.toList A B l ex.code)∧l≠.busy∧qe6 P T base cs K ex ⟨sl,repl b.hp nx .dead,b.nx⟩)) :
    RunK P T base (.rangeFunc k n assign body::cs) ⟨sl,hp,nx⟩ K:=by
  obtain ⟨c,b,e,u,v,x,s,l,ex,y,q,r⟩:=(h assign body rfl rfl).toEv;exact ⟨ex,_,.rangeF (pe:=ex.code) t (.mk o hb g m (by simpa using p) e u x) y q rfl,r⟩
theorem q56 {st : AS} (h : RunK P T base cs st K) : qe6 P T base cs K .nor st:=h
theorem qe7 {st : AS} (h : K .ret st) : qe6 P T base cs K .ret st:=h
end
inductive WvS (st : AS) (ρ : Nat→Nat) (fz ph : List Nat) (nx : Nat) : List (Nat × V)→List (Nat × V)→Prop
  | nil {s : List (Nat × V)} : WvS st ρ fz ph nx s []
  | cons {s s' : List (Nat × V)} {t : Nat} {v v' : V} : find s t = some v→Wv st ρ fz ph nx v v'→WvS st ρ fz ph nx s s'→WvS st ρ fz ph nx s ((t,v')::s')
theorem q13f {st : AS} {ρ : Nat→Nat} {fz ph : List Nat} {nx : Nat} {s b : List (Nat × V)} {c : List Tmp} {as f : Code} {d : LoopState} {pe : Option Code} (h : WvS st ρ fz ph nx s b) : Wb st ρ fz ph nx (.loop s c as f d pe) (.loop b c as f d pe):=by
  refine .loop fun t g a=>?_
  induction h with
  | nil=>simp [find] at a
  | @cons b t' v v'' h1 h2 _ ih=>
    simp only [find] at a
    cases hb : Nat.beq t' t with
    | true=>rw [hb] at a;cases a;obtain rfl:=Nat.eq_of_beq_eq_true hb;exact ⟨v,h1,h2⟩
    | false=>rw [hb] at a;exact ih a
theorem qo6 {α : Type} {enc : α→List DV} {es : Nat} (a : ∀ x,(enc x).length = es) {xs : List α} {k : Nat} {v : α} (h : xs[k]? = some v) : sub (xs.flatMap enc) (k * es) es = some (enc v):=by
  induction xs generalizing k with
  | nil=>simp at h
  | cons x xs ih=>
    cases k with
    | zero=>
      simp at h;subst h;have:=a x;simp [sub,List.flatMap_cons,this]
    | succ k=>
      have c : xs[k]? = some v:=by simpa using h
      have:=ih c;unfold sub at this ⊢;have f:=a x;have b : (k + 1) * es = (enc x).length + k * es:=by rw [Nat.succ_mul,f];omega
      rw [List.flatMap_cons,b];split at this
      · rename_i d;rw [qr (by rw [List.length_append];omega),← List.drop_drop,List.drop_left];exact this
      · cases this
theorem q12k {α : Type} {enc : α→List DV} {es : Nat} (a : ∀ x,(enc x).length = es) {xs : List α} {k : Nat} {v : α} (h : k < xs.length) : splice (xs.flatMap enc) (k * es) (enc v) = (xs.set k v).flatMap enc:=by
  induction xs generalizing k with
  | nil=>simp at h
  | cons x xs ih=>
    have b:=a x;have d:=a v
    cases k with
    | zero=>
      simp only [splice,Nat.zero_mul,List.take_zero,List.nil_append,Nat.zero_add,List.flatMap_cons,List.set_cons_zero];rw [d,← b,List.drop_left]
    | succ k=>
      have:=ih (k:=k) (by simpa using h);simp only [splice] at this ⊢;have c : (k + 1) * es = (enc x).length + k * es:=by rw [Nat.succ_mul,b];omega
      rw [List.flatMap_cons,List.set_cons_succ,List.flatMap_cons,c,← this];rw [List.take_length_add_append,show (enc x).length + k * es + (enc v).length = (enc x).length + (k * es + (enc v).length) by omega,← List.drop_drop,List.drop_left];simp [List.append_assoc]
theorem qrr {α : Type} {enc : α→List DV} {es : Nat} (a : ∀ x,(enc x).length = es) (xs : List α) : (xs.flatMap enc).length = xs.length * es:=by
  induction xs with
  | nil=>simp
  | cons x xs ih=>rw [List.flatMap_cons,List.length_append,a,ih,List.length_cons,Nat.succ_mul];omega
def idxA {α : Type} (n : Nat) (xs : List α) (i : Int) : Option α:=if 0≤i∧i < n then xs[i.toNat]? else none
def andI (k : IntKind) (x y : Int) : Int:=k.wrap (BitVec.ofInt k.bits x &&& BitVec.ofInt k.bits y).toNat
def xorI (k : IntKind) (x y : Int) : Int:=k.wrap (BitVec.ofInt k.bits x ^^^ BitVec.ofInt k.bits y).toNat
def quoK (k : IntKind) (x y : Int) : Option Int:=if y = 0 then none else some (k.wrap (x.tdiv y))
def remK (x y : Int) : Option Int:=if y = 0 then none else some (x.tmod y)
section
variable {P : Program} {T : Tab} {base : Nat} {ops : Array Oper} {dr : Dr} {l : List Oper} {sl : List (Nat × V)} {hp : List (Nat × Blk)} {nx : Nat} {K : AS→Prop} {ty : TypeId} {pos : String} {af : Array Edge} {t : Tmp} {g : Option (Nat × Bool)}
theorem qlw {x y : Operand} {j f : TypeId} {a b r : Int} {k : IntKind} (c : quoK k a b = some r) (o : Qw ops ⟨sl,hp,nx⟩ ⟨some t,.binOp .quo j x y f,ty,pos,af,g⟩ = some true) (p : AS.ev ⟨sl,hp,nx⟩ x = some (.d (.int k a))) (m : AS.ev ⟨sl,hp,nx⟩ y = some (.d (.int k b)))
    (h : OpsK P T base ops dr l ⟨(t,.d (.int k r))::sl,hp,nx⟩ K) : OpsK P T base ops dr (⟨some t,.binOp .quo j x y f,ty,pos,af,g⟩::l) ⟨sl,hp,nx⟩ K:=by
  unfold quoK at c;split at c
  · cases c
  · rename_i n;cases c;exact Y9 o (v:=.d (.int k (k.wrap (a.tdiv b)))) (st1:=⟨sl,hp,nx⟩) (by simp [opFn,p,m,binD,binI,n]) h (Zj rfl)
theorem qui {x y : Operand} {j f : TypeId} {a b r : Int} {k : IntKind} (c : remK a b = some r) (o : Qw ops ⟨sl,hp,nx⟩ ⟨some t,.binOp .rem j x y f,ty,pos,af,g⟩ = some true) (p : AS.ev ⟨sl,hp,nx⟩ x = some (.d (.int k a))) (m : AS.ev ⟨sl,hp,nx⟩ y = some (.d (.int k b)))
    (h : OpsK P T base ops dr l ⟨(t,.d (.int k r))::sl,hp,nx⟩ K) : OpsK P T base ops dr (⟨some t,.binOp .rem j x y f,ty,pos,af,g⟩::l) ⟨sl,hp,nx⟩ K:=by
  unfold remK at c;split at c
  · cases c
  · rename_i n;cases c;exact Y9 o (v:=.d (.int k (a.tmod b))) (st1:=⟨sl,hp,nx⟩) (by simp [opFn,p,m,binD,binI,n]) h (Zj rfl)
theorem q12v {α β : Type} (f : α→β) (cs : List α) (j n : Nat) : sub (cs.map f) j n = (sub cs j n).map (·.map f):=by
  unfold sub;simp only [List.length_map];split
  · simp [List.map_take,List.map_drop]
  · rfl
theorem qc4 {α : Type} {n : Nat} {xs : List α} {i : Int} {v : α} (h : idxA n xs i = some v) : 0≤i∧i < n∧xs[i.toNat]? = some v:=by
  unfold idxA at h;split at h
  · rename_i a;exact ⟨a.1,a.2,h⟩
  · cases h
theorem qcd {α : Type} {x y : Operand} {a : TypeId} {i : TI} {k : IntKind} {n : Int} {enc : α→List DV} {v : α} (xs : List α) (w : V) (r : idxA i.len xs n = some v) (b : ∀ x,(enc x).length = i.esize) (o : Qw ops ⟨sl,hp,nx⟩ ⟨some t,.index a x y,ty,pos,af,g⟩ = some true) (s : T a = some i)
    (p : AS.ev ⟨sl,hp,nx⟩ x = some (.d (.agg (xs.flatMap enc)))) (j : AS.ev ⟨sl,hp,nx⟩ y = some (.d (.int k n))) (q : i.kind = .array) (c : pack i.eagg ((enc v).map .d) = some w)
    (h : OpsK P T base ops dr l ⟨(t,w)::sl,hp,nx⟩ K) : OpsK P T base ops dr (⟨some t,.index a x y,ty,pos,af,g⟩::l) ⟨sl,hp,nx⟩ K:=by
  obtain ⟨m,u,f⟩:=qc4 r;refine Y9 o (v:=w) (st1:=⟨sl,hp,nx⟩) ?_ h (Zj rfl);simp only [opFn,s,p,j,q,agD];rw [qr ⟨m,u⟩,q12v,qo6 b f];simp only [Option.map_some,c]
theorem q1o {α : Type} {x y : Operand} {a : TypeId} {i : TI} {k : IntKind} {n : Int} {m es : Nat} {v : α} {xs : List α} (p : idxA i.len xs n = some v) (f : Qw ops ⟨sl,hp,nx⟩ ⟨some t,.indexAddr a x y,ty,pos,af,g⟩ = some true) (q : T a = some i)
    (j : AS.ev ⟨sl,hp,nx⟩ x = some (.ref m es 0 0)) (b : AS.ev ⟨sl,hp,nx⟩ y = some (.d (.int k n))) (o : i.kind = .array)
    (h : OpsK P T base ops dr l ⟨(t,.ref m es 0 (n.toNat * i.esize))::sl,hp,nx⟩ K) : OpsK P T base ops dr (⟨some t,.indexAddr a x y,ty,pos,af,g⟩::l) ⟨sl,hp,nx⟩ K:=by
  obtain ⟨c,r,_⟩:=qc4 p;exact Y9 f (v:=.ref m es 0 (n.toNat * i.esize)) (st1:=⟨sl,hp,nx⟩) (by simp [opFn,j,b,q,q3x,o,c,r]) h (Zj rfl)
theorem q2s {α : Type} {p : Operand} {a : TypeId} {i : TI} {m es sz q : Nat} {n : Int} {xs : List α} {enc : α→List DV} {v : α} (w : V) (k : idxA q xs n = some v) (b : ∀ x,(enc x).length = sz) (f : Qw ops ⟨sl,hp,nx⟩ ⟨some t,.load a p,ty,pos,af,g⟩ = some true) (o : T a = some i)
    (j : AS.ev ⟨sl,hp,nx⟩ p = some (.ref m es 0 (n.toNat * sz))) (hb : find hp m = some (.dat es [xs.flatMap enc])) (hs : sz = i.size) (c : (q1q i.agg (enc v)).map .d = some w)
    (h : OpsK P T base ops dr l ⟨(t,w)::sl,hp,nx⟩ K) (r : okF dr l.length (fp ⟨sl,hp,nx⟩ (.load a p)) = true:=by rfl) : OpsK P T base ops dr (⟨some t,.load a p,ty,pos,af,g⟩::l) ⟨sl,hp,nx⟩ K:=
  qlu f o j hb rfl (by rw [← hs];exact qo6 b (qc4 k).2.2) c h r
theorem qul {α : Type} {p x : Operand} {k : TypeId} {i : TI} {m es sz ln : Nat} {n : Int} {xs : List α} {enc : α→List DV} {v : α} (c : α) {u : V} (y : idxA ln xs n = some v) (a : ∀ x,(enc x).length = sz) (r : Qw ops ⟨sl,hp,nx⟩ ⟨none,.store k p x,ty,pos,af,g⟩ = some true) (z : T k = some i)
    (hp' : AS.ev ⟨sl,hp,nx⟩ p = some (.ref m es 0 (n.toNat * sz))) (s : AS.ev ⟨sl,hp,nx⟩ x = some u) (hb : find hp m = some (.dat es [xs.flatMap enc])) (hs : sz = i.size) (q : cellsOf u = (enc c).map .d) (t : (enc c).all Zh = true)
    (h : OpsK P T base ops dr l ⟨sl,repl hp m (.dat es [(xs.set n.toNat c).flatMap enc]),nx⟩ K) (hF : okO dr l.length ⟨sl,hp,nx⟩ (.store k p x) ⟨sl,repl hp m (.dat es [(xs.set n.toNat c).flatMap enc]),nx⟩ = true:=by rfl) : OpsK P T base ops dr (⟨none,.store k p x,ty,pos,af,g⟩::l) ⟨sl,hp,nx⟩ K:=by
  have b:=Kc (qc4 y).2.2;refine Y9 r (v:=.dead) (st1:=⟨sl,repl hp m (.dat es [(xs.set n.toNat c).flatMap enc]),nx⟩) ?_ h hF;have f : (cellsOf u).all Kg = true:=by rw [q,List.all_map];exact t
  have j : (cellsOf u).length = i.size:=by rw [q,List.length_map,a];exact hs
  have o : n.toNat * sz + i.size≤(xs.flatMap enc).length:=by
    rw [qrr a,← hs,← Nat.succ_mul];exact Nat.mul_le_mul_right _ b
  simp only [opFn,z,hp',s,Jj,AS.blk,hb,Nat.beq_refl];rw [qs (by simp [f,j])];simp only [List.getElem?_cons_zero];rw [qr o,q,qe8];simp only [q12k a b,AS.setBlk,List.set_cons_zero];rfl
theorem qdv {α : Type} {st : AS} {ρ : Nat→Nat} {fz ph : List Nat} {nx n es : Nat} {w : Nat × Nat} {ys : List α} {enc : α→List DV} (a : w.1 + w.2≤ys.length) (hb : st.blk n = some (.dat es (ys.map enc))) (b : n∈fz) : Wv st ρ fz ph nx (.hs n es w.1 w.2) (.d (.sl es (((ys.drop w.1).take w.2).map enc))):=
  .frz hb b (by simpa using a) (by rw [List.map_take,List.map_drop]) rfl
theorem qpa {hp : List (Nat × Blk)} {a : List V} {ds C : List DV} (h : Km hp a = some ds) : Km hp (a ++ C.map .d) = some (ds ++ C):=by
  induction a generalizing ds with
  | nil=>
    simp [Km] at h;subst h
    induction C with
    | nil=>rfl
    | cons c C ih=>
      simp only [List.nil_append,List.map_cons] at ih ⊢;simp only [Km];rw [show toD hp 8 (.d c) = some c from rfl,ih]
  | cons v a ih=>
    simp only [Km] at h;split at h <;> simp at h
    rename_i x l f b;subst h;simp only [List.cons_append,Km,f,ih b]
theorem qrs {a : List V} {C : List DV} : fpC (a ++ C.map .d) = fpC a:=by
  unfold fpC;have : (C.map V.d).all V.isD = true:=by rw [List.all_map];simp [V.isD]
  rw [List.all_append,this,Bool.and_true]
theorem Yu {c : Call} {f : FuncId} {C ds : List DV} {r : DV} (a : List V) (b : Pure P T f (ds ++ C) r) (j : Qw ops ⟨sl,hp,nx⟩ ⟨some t,.call c,ty,pos,af,g⟩ = some true) (k : callee ⟨sl,hp,nx⟩ c = some (f,a ++ C.map .d)) (hd : Km hp a = some ds)
    (hs : (a.all V.isD = true∨r.scalar = true)) (h : OpsK P T base ops dr l ⟨(t,.d r)::sl,hp,nx⟩ K) (m : okF dr l.length (fpC a) = true:=by rfl) : OpsK P T base ops dr (⟨some t,.call c,ty,pos,af,g⟩::l) ⟨sl,hp,nx⟩ K:=by
  refine qlt j rfl k (qpa hd) ?_ b h (by rw [qrs];exact m);rcases hs with hs | hs
  · left;rw [List.all_append,hs,Bool.true_and,List.all_map];simp [V.isD]
  · exact .inr hs
end
end Go.Am
namespace Go.Am
open Go
theorem Yh {base : Nat} {st st' : AS} (l : List (Nat × Nat)) (fz ph : List Nat) (g : wkOk base l fz ph st'.hp st'.nx = true) (hs : WkL st (rho l) fz ph st'.nx st'.sl) (q : WkH st (rho l) fz ph st'.nx st'.hp) : Wk base (rho l) fz ph st st':=by
  simp only [wkOk,Bool.and_eq_true,Nat.ble_eq,List.all_eq_true] at g;obtain ⟨⟨⟨⟨u,p⟩,r⟩,v⟩,o⟩:=g;refine ⟨?_,?_,?_,?_,?_,u,?_,?_⟩
  · exact fun t y h=>hs.get (Zs h)
  · exact fun n z h=>q.get (Zs h)
  · intro n m b c a k d j s;have:=o _ (Zs a);simp only [Bool.or_eq_true,Bool.and_eq_true,q5p,List.all_eq_true,Bool.not_eq_true'] at this;rcases this with h | h
    · exact absurd h d
    · have:=h.2 _ (Zs k);rcases this with (f | f) | f
      · exact absurd f j
      · rw [s] at f;simp at f
      · exact Nat.eq_of_beq_eq_true f
  · intro n b a d x;have:=o _ (Zs a);simp only [Bool.or_eq_true,Bool.and_eq_true,q5p,Bool.not_eq_true'] at this;rcases this with h | h
    · exact absurd h d
    · rw [q5p.2 x] at h;exact absurd h.1 qe
  · intro n a;unfold rho;split
    · rename_i m k;have:=p _ (Zs k);simp at this;omega
    · rfl
  · exact fun n a=>r n a
  · exact fun n a=>v n a
def q8b (l l3 : List (Nat × Nat)) (k k' nx nxN : Nat) : Bool:=
  (List.range k).all (fun i=>Nat.blt (rho l i) nx && Nat.beq (rho l3 (rho l i)) i) && (List.range nx).all (fun m=>(Nat.blt (rho l3 m) k && Nat.beq (rho l (rho l3 m)) m) || Nat.ble k' (rho l3 m)) && Nat.ble nx nxN
def OldL (l : List (Nat × Nat)) (k : Nat) (hp hpR : List (Nat × Blk)) : List (Nat × Blk)→Prop
  | []=>True
  | (m,b)::r=>(find hpR m = some b∨(find hp m = some b∧(List.range k).all (fun i=>!(Nat.beq (rho l i) m)) = true))∧OldL l k hp hpR r
theorem OldL.get {l : List (Nat × Nat)} {k : Nat} {hp a : List (Nat × Blk)} : ∀ {r : List (Nat × Blk)},OldL l k hp a r→∀ m b,(m,b)∈r→find a m = some b∨(find hp m = some b∧∀ i,i < k→rho l i≠m)
  | [],_,m,b,h=>by cases h
  | (m',b')::r,h,m,b,c=>by
    rcases List.mem_cons.1 c with e | c
    · cases e
      refine h.1.imp (fun x=>x) fun ⟨d,h2⟩=>⟨d,fun i hi e=>?_⟩
      have:=List.all_eq_true.1 h2 i (List.mem_range.2 hi)
      rw [e] at this;simp at this
    · exact OldL.get h.2 m b c
section
variable {P : Program} {T : Tab} {base : Nat} {ops : Array Oper} {l : List Oper} {sl : List (Nat × V)} {hp : List (Nat × Blk)} {nx : Nat} {K : AS→Prop} {ty : TypeId} {pos : String} {af : Array Edge} {dst : Option Tmp} {g : Option (Nat × Bool)}
theorem Jz {c : Call} {f : FuncId} {j : List V} {hp0 o : List (Nat × Blk)} {k r : Nat} {vR : V} (x z : List (Nat × Nat)) (v : List V) (y : V) (a q : List (Nat × Blk)) (d : Nat) (he : K6 P T f j hp0 k vR o r) (hg : Qw ops ⟨sl,hp,nx⟩ ⟨dst,.call c,ty,pos,af,g⟩ = some true) (hc : callee ⟨sl,hp,nx⟩ c = some (f,v)) (p : v.length = j.length)
    (s : Wk 0 (rho x) [] [] ⟨Y4 0 v,hp,nx⟩ ⟨Y4 0 j,hp0,k⟩) (t : Wk 0 (rho z) [] [] ⟨[(0,vR)],o,r⟩ ⟨[(0,y)],a,d⟩) (hb : q8b x z k r nx d = true) (hold : OldL x k hp a q)
    (h : OpsK P T base ops none l ((⟨sl,q,d⟩ : AS).putD dst y) K) : OpsK P T base ops none (⟨dst,.call c,ty,pos,af,g⟩::l) ⟨sl,hp,nx⟩ K:=by
  obtain ⟨st2,e2,k2⟩:=h;refine ⟨st2,.callF hg rfl hc p s he t ⟨?_,?_,?_,?_,?_⟩ e2,k2⟩
  · intro i hi;simp only [q8b,Bool.and_eq_true,List.all_eq_true,List.mem_range] at hb;have:=hb.1.1 i hi;exact ⟨by simpa [Nat.blt_eq] using this.1,Nat.eq_of_beq_eq_true this.2⟩
  · intro m u;simp only [q8b,Bool.and_eq_true,List.all_eq_true,List.mem_range,Bool.or_eq_true] at hb;rcases hb.1.2 m u with n | n
    · exact .inl ⟨by simpa [Nat.blt_eq] using n.1,Nat.eq_of_beq_eq_true n.2⟩
    · exact .inr (by simpa using n)
  · intro m u;cases u
  · exact fun m b n=>hold.get m b (Zs n)
  · simp only [q8b,Bool.and_eq_true] at hb;simpa using hb.2
end
theorem Kn {P : Program} {T : Tab} {f : FuncId} {fn : Func} {c : Code} {g : List V} {hp b : List (Nat × Blk)} {nx j : Nat} {vR : V} (k : P.funcs[f]? = some fn) (hb : fn.body = some c) (a : (fn.name == "runtime.NumGoroutine") = false) (d : codeOk fn.ntmps c = true) (l : Nat.ble g.length fn.ntmps = true)
    (h : RunK P T nx [c] ⟨Y4 0 g,hp,nx⟩ (fun ex st=>(ex = .nor∨ex = .ret)∧∃ v,resV T st fn.results.toList = some v∧WkE nx ⟨[(0,v)],st.hp,st.nx⟩ ⟨[(0,vR)],b,j⟩)) : K6 P T f g hp nx vR b j:=by
  obtain ⟨ex,st',e,m,v,n,ρ,fz,ph,w⟩:=q59 h;exact .wk (.mk k hb a d (by simpa using l) e m n) w
def shlK (k : IntKind) (x y : Int) : Option Int:=if y < 0 then none else some (k.wrap (x * 2 ^ (min y.toNat k.bits)))
section
variable {P : Program} {T : Tab} {base : Nat} {ops : Array Oper} {dr : Dr} {l : List Oper} {sl : List (Nat × V)} {hp : List (Nat × Blk)} {nx : Nat} {K : AS→Prop} {ty : TypeId} {pos : String} {af : Array Edge} {t : Tmp} {g : Option (Nat × Bool)}
theorem quj {x y : Operand} {j f : TypeId} {a b r : Int} {k p : IntKind} (c : shlK k a b = some r) (o : Qw ops ⟨sl,hp,nx⟩ ⟨some t,.binOp .shl j x y f,ty,pos,af,g⟩ = some true) (q : AS.ev ⟨sl,hp,nx⟩ x = some (.d (.int k a))) (m : AS.ev ⟨sl,hp,nx⟩ y = some (.d (.int p b)))
    (h : OpsK P T base ops dr l ⟨(t,.d (.int k r))::sl,hp,nx⟩ K) : OpsK P T base ops dr (⟨some t,.binOp .shl j x y f,ty,pos,af,g⟩::l) ⟨sl,hp,nx⟩ K:=by
  unfold shlK at c;split at c
  · cases c
  · rename_i n;cases c;exact Y9 o (v:=.d (.int k (k.wrap (a * 2 ^ (min b.toNat k.bits))))) (st1:=⟨sl,hp,nx⟩) (by simp [opFn,q,m,binD,q9j,n]) h (Zj rfl)
end
def K2 (n m : Nat) : Option Unit:=if n = m then some () else none
theorem Kh {n m : Nat} {u : Unit} (h : K2 n m = some u) : n = m:=by
  unfold K2 at h;split at h
  · assumption
  · cases h
def q51 (s : ByteArray) (i : Int) : Option Int:=(if 0≤i then s[i.toNat]? else none).map fun b=>(b.toNat : Int)
theorem quc {P : Program} {T : Tab} {base : Nat} {ops : Array Oper} {dr : Dr} {l : List Oper} {sl : List (Nat × V)} {hp : List (Nat × Blk)} {nx : Nat} {K : AS→Prop} {ty : TypeId} {pos : String} {af : Array Edge} {t : Tmp} {g : Option (Nat × Bool)} {x y : Operand} {a : TypeId} {i : TI} {k : IntKind} {n v : Int} (s : ByteArray) (c : q51 s n = some v) (j : Qw ops ⟨sl,hp,nx⟩ ⟨some t,.index a x y,ty,pos,af,g⟩ = some true) (p : T a = some i)
    (m : AS.ev ⟨sl,hp,nx⟩ x = some (.d (.str s))) (f : AS.ev ⟨sl,hp,nx⟩ y = some (.d (.int k n))) (o : i.kind = .str)
    (h : OpsK P T base ops dr l ⟨(t,.d (.int .u8 v))::sl,hp,nx⟩ K) : OpsK P T base ops dr (⟨some t,.index a x y,ty,pos,af,g⟩::l) ⟨sl,hp,nx⟩ K:=by
  unfold q51 at c;rw [Ky] at c;obtain ⟨b,hb,rfl⟩:=c;refine Y9 j (v:=.d (.int .u8 b.toNat)) (st1:=⟨sl,hp,nx⟩) ?_ h (Zj rfl);simp only [opFn,p,m,f,o,hb,Option.map_some]
open Classical in
noncomputable def lim {α : Type} (f : Nat→Option α) : Option α:=if h : ∃ r n,f n = some r then some h.choose else none
theorem qft {α : Type} {f : Nat→Option α} {r : α} (h : lim f = some r) : ∃ n,f n = some r:=by
  unfold lim at h;split at h
  · rename_i a;cases h;exact a.choose_spec
  · cases h
theorem qt9 {α : Type} {f : Nat→Option α} {n : Nat} {r : α} (h : f n = some r) : ∃ a,lim f = some a:=by
  unfold lim;rw [dif_pos ⟨r,n,h⟩];exact ⟨_,rfl⟩
theorem Yo {P : Program} {T : Tab} {base : Nat} {c : Code} {cs : List Code} {st : AS} {K : Ex→AS→Prop} (h : RunK P T base (c::.loop c::cs) st K) : RunK P T base (.loop c::cs) st K:=by
  obtain ⟨ex,st1,b,a⟩:=h
  cases ex with
  | nor=>
    obtain ⟨d,st2,g,f⟩:=a;exact ⟨d,st2,.loopN b g,f⟩
  | exit i=>exact ⟨_,_,.loopX b qe,a⟩
  | ret=>exact ⟨_,_,.loopX b qe,a⟩
def idxW {α : Type} (xs : List α) (w : Nat × Nat) (k : Int) : Option α:=if 0≤k∧k < w.2 then xs[w.1 + k.toNat]? else none
theorem qfk {α : Type} {xs : List α} {w : Nat × Nat} {k : Int} {v : α} (h : idxW xs w k = some v) : idx xs ((w.1 : Int) + k) = some v:=by
  unfold idxW at h;split at h
  · rename_i a;unfold idx;rw [qr q0];rw [show ((w.1 : Int) + k).toNat = w.1 + k.toNat by omega];exact h
  · cases h
def q14 (n : Nat) (w : Nat × Nat) : Option Unit:=if w.1 + w.2≤n then some () else none
theorem qdt {n : Nat} {w : Nat × Nat} {u : Unit} (h : q14 n w = some u) : w.1 + w.2≤n:=by
  unfold q14 at h;split at h
  · assumption
  · cases h
def clrw {α : Type} (xs : List α) (w : Nat × Nat) (z : α) : List α:=splice xs w.1 (List.replicate w.2 z)
theorem qii {α : Type} {xs : List α} {w : Nat × Nat} {z : α} (h : w.1 + w.2≤xs.length) : (clrw xs w z).length = xs.length:=by
  unfold clrw splice;simp;omega
section
variable {P : Program} {T : Tab} {base : Nat} {ops : Array Oper} {dr : Dr} {l : List Oper} {sl : List (Nat × V)} {hp : List (Nat × Blk)} {nx : Nat} {K : AS→Prop} {ty : TypeId} {pos : String} {af : Array Edge} {t : Tmp} {g : Option (Nat × Bool)}
theorem qga {α : Type} {x y : Operand} {a : TypeId} {i : TI} {k : IntKind} {n : Int} {m es : Nat} {xs : List α} {w : Nat × Nat} {v : α} (b : idxW xs w n = some v) (j : Qw ops ⟨sl,hp,nx⟩ ⟨some t,.indexAddr a x y,ty,pos,af,g⟩ = some true) (r : T a = some i)
    (o : AS.ev ⟨sl,hp,nx⟩ x = some (.hs m es w.1 w.2)) (f : AS.ev ⟨sl,hp,nx⟩ y = some (.d (.int k n))) (p : i.kind = .slice) (q : es = i.esize)
    (h : OpsK P T base ops dr l ⟨(t,.ref m es ((w.1 : Int) + n).toNat 0)::sl,hp,nx⟩ K) : OpsK P T base ops dr (⟨some t,.indexAddr a x y,ty,pos,af,g⟩::l) ⟨sl,hp,nx⟩ K:=by
  have c : 0≤n∧n < w.2:=by
    unfold idxW at b;split at b
    · assumption
    · cases b
  refine qu9 j r o f p q c.1 c.2 ?_;rw [show ((w.1 : Int) + n).toNat = w.1 + n.toNat by omega] at h;exact h
theorem qu7 {α : Type} {x : Operand} {a : TypeId} {i : TI} {n es : Nat} {xs : List α} {enc : α→List DV} (z : α) {w : Nat × Nat} (b : w.1 + w.2≤xs.length) (c : Qw ops ⟨sl,hp,nx⟩ ⟨none,.call {callee:=.builtin .clear,args:=#[x],argTypes:=#[a]},ty,pos,af,g⟩ = some true) (m : T a = some i)
    (f : AS.ev ⟨sl,hp,nx⟩ x = some (.hs n es w.1 w.2)) (hb : find hp n = some (.dat es (xs.map enc))) (j : i.kind = .slice) (k : i.esize = es) (p : i.ezero = enc z)
    (h : OpsK P T base ops dr l ⟨sl,repl hp n (.dat es ((clrw xs w z).map enc)),nx⟩ K) (o : okO dr l.length ⟨sl,hp,nx⟩ (.call {callee:=.builtin .clear,args:=#[x],argTypes:=#[a]}) ⟨sl,repl hp n (.dat es ((clrw xs w z).map enc)),nx⟩ = true:=by rfl) :
    OpsK P T base ops dr (⟨none,.call {callee:=.builtin .clear,args:=#[x],argTypes:=#[a]},ty,pos,af,g⟩::l) ⟨sl,hp,nx⟩ K:=by
  subst k;refine Y9 c (v:=.d (.tup [])) (st1:=⟨sl,repl hp n (.dat i.esize ((clrw xs w z).map enc)),nx⟩) ?_ h o;simp only [opFn,evL,f,Yb];simp only [List.getElem?_toArray,List.getElem?_cons_zero,m];rw [qr ⟨j,by simp [Zr]⟩];simp only [Jv,AS.blk,hb];rw [qr ⟨by simpa using b,trivial⟩,p];simp [clrw,splice,AS.setBlk]
end
section
variable {P : Program} {T : Tab} {base : Nat} {ops : Array Oper} {dr : Dr} {l : List Oper} {sl : List (Nat × V)} {hp : List (Nat × Blk)} {nx : Nat} {K : AS→Prop} {ty : TypeId} {pos : String} {af : Array Edge} {t : Tmp} {g : Option (Nat × Bool)}
end
end Go.Am
namespace Go.Am
open Go
theorem J {α : Sort _} {a : α} : a = a:=rfl
abbrev qd (n : Int) : DV:=.int .i64 n
abbrev q7 (n : Int) : V:=.d (.int .i64 n)
abbrev Q1 (b : Bool) : V:=.d (.bool b)
section
variable {P : Program} {T : Tab} {base : Nat} {ops : Array Oper} {dr : Dr} {l : List Oper} {sl : List (Nat × V)} {hp : List (Nat × Blk)} {nx : Nat} {K : AS→Prop} {ty : TypeId} {pos : String} {af : Array Edge} {t : Tmp} {g : Option (Nat × Bool)} {v : V}
theorem U {x : Operand} (a : (Qw ops ⟨sl,hp,nx⟩ ⟨some t,.move x,ty,pos,af,g⟩,AS.ev ⟨sl,hp,nx⟩ x) = (some true,some v))
    (h : OpsK P T base ops dr l ⟨(t,v)::sl,hp,nx⟩ K) : OpsK P T base ops dr (⟨some t,.move x,ty,pos,af,g⟩::l) ⟨sl,hp,nx⟩ K:=qgb (Prod.mk.inj a).1 (Prod.mk.inj a).2 h
theorem qa {x : Operand} (a : (Qw ops ⟨sl,hp,nx⟩ ⟨some t,.assign x,ty,pos,af,g⟩,AS.ev ⟨sl,hp,nx⟩ x) = (some true,some v))
    (h : OpsK P T base ops dr l ⟨(t,v)::sl,hp,nx⟩ K) : OpsK P T base ops dr (⟨some t,.assign x,ty,pos,af,g⟩::l) ⟨sl,hp,nx⟩ K:=qu6 (Prod.mk.inj a).1 (Prod.mk.inj a).2 h
theorem O {op : Op} (v : V) (a : (Qw ops ⟨sl,hp,nx⟩ ⟨some t,op,ty,pos,af,g⟩,opFn T ⟨sl,hp,nx⟩ op) = (some true,some (v,⟨sl,hp,nx⟩))) (h : OpsK P T base ops dr l ⟨(t,v)::sl,hp,nx⟩ K)
    (b : okO dr l.length ⟨sl,hp,nx⟩ (op) ⟨sl,hp,nx⟩ = true:=by rfl) : OpsK P T base ops dr (⟨some t,op,ty,pos,af,g⟩::l) ⟨sl,hp,nx⟩ K:=qun v (Prod.mk.inj a).1 (Prod.mk.inj a).2 h b
theorem Qe {op : Op} (n : Nat) (b : Blk) (a : (Qw ops ⟨sl,hp,nx⟩ ⟨none,op,ty,pos,af,g⟩,opFn T ⟨sl,hp,nx⟩ op) = (some true,some (.dead,⟨sl,repl hp n b,nx⟩))) (h : OpsK P T base ops dr l ⟨sl,repl hp n b,nx⟩ K) (c : okO dr l.length ⟨sl,hp,nx⟩ (op) ⟨sl,repl hp n b,nx⟩ = true:=by rfl) : OpsK P T base ops dr (⟨none,op,ty,pos,af,g⟩::l) ⟨sl,hp,nx⟩ K:=
  qum n b (Prod.mk.inj a).1 (Prod.mk.inj a).2 h c
theorem Qp {op : Op} (v : V) (b : Blk) (a : (Qw ops ⟨sl,hp,nx⟩ ⟨some t,op,ty,pos,af,g⟩,opFn T ⟨sl,hp,nx⟩ op) = (some true,some (v,⟨sl,(nx,b)::hp,nx + 1⟩))) (h : OpsK P T base ops dr l ⟨(t,v)::sl,(nx,b)::hp,nx + 1⟩ K) (c : okO dr l.length ⟨sl,hp,nx⟩ (op) ⟨sl,(nx,b)::hp,nx + 1⟩ = true:=by rfl) : OpsK P T base ops dr (⟨some t,op,ty,pos,af,g⟩::l) ⟨sl,hp,nx⟩ K:=
  quf v b (Prod.mk.inj a).1 (Prod.mk.inj a).2 h c
theorem q5u {α : Type} {x : Operand} {a : TypeId} {i : TI} {es : Nat} {xs : List α} {enc : α→List DV} (n : Int) (k : (xs.length : Int) = n) (f : Qw ops ⟨sl,hp,nx⟩ ⟨some t,.call {callee:=.builtin .len,args:=#[x],argTypes:=#[a]},ty,pos,af,g⟩ = some true) (c : T a = some i) (b : i.kind = .slice) (j : AS.ev ⟨sl,hp,nx⟩ x = some (.d (.sl es (xs.map enc))))
    (h : OpsK P T base ops dr l ⟨(t,.d (.int .i64 n))::sl,hp,nx⟩ K) : OpsK P T base ops dr (⟨some t,.call {callee:=.builtin .len,args:=#[x],argTypes:=#[a]},ty,pos,af,g⟩::l) ⟨sl,hp,nx⟩ K:=by
  subst k;exact qlv f c b j h
theorem Ql {α : Type} {x y : Operand} {a : TypeId} {i : TI} {k : IntKind} {n : Int} {es : Nat} {xs : List α} {enc : α→List DV} {v : α} (m : idx xs n = some v)
    (b : (Qw ops ⟨sl,hp,nx⟩ ⟨some t,.indexAddr a x y,ty,pos,af,g⟩,T a,AS.ev ⟨sl,hp,nx⟩ x,AS.ev ⟨sl,hp,nx⟩ y,i.kind,es) = (some true,some i,some (.d (.sl es (xs.map enc))),some (.d (.int k n)),.slice,i.esize))
    (h : OpsK P T base ops dr l ⟨(t,.dref (enc v) 0)::sl,hp,nx⟩ K) : OpsK P T base ops dr (⟨some t,.indexAddr a x y,ty,pos,af,g⟩::l) ⟨sl,hp,nx⟩ K:=by
  simp only [Prod.mk.injEq] at b;obtain ⟨p,c,f,o,q,j⟩:=b;exact qub m p c f o q j h
theorem Q2 {α : Type} {x y : Operand} {a : TypeId} {i : TI} {k : IntKind} {n : Int} {m es len : Nat} {xs : List α} {v : α} (p : idx xs n = some v) (c : len = xs.length)
    (b : (Qw ops ⟨sl,hp,nx⟩ ⟨some t,.indexAddr a x y,ty,pos,af,g⟩,T a,AS.ev ⟨sl,hp,nx⟩ x,AS.ev ⟨sl,hp,nx⟩ y,i.kind,es) = (some true,some i,some (.hs m es 0 len),some (.d (.int k n)),.slice,i.esize))
    (h : OpsK P T base ops dr l ⟨(t,.ref m es n.toNat 0)::sl,hp,nx⟩ K) : OpsK P T base ops dr (⟨some t,.indexAddr a x y,ty,pos,af,g⟩::l) ⟨sl,hp,nx⟩ K:=by
  simp only [Prod.mk.injEq] at b;obtain ⟨r,f,j,q,s,o⟩:=b;exact qua p c r f j q s o h
theorem Qg {α : Type} {p : Operand} {a : TypeId} {i : TI} {m es j : Nat} {n : Int} {xs : List α} {enc : α→List DV} {r : List DV} {v : α} (w : V) (o : idx xs n = some v)
    (b : (Qw ops ⟨sl,hp,nx⟩ ⟨some t,.load a p,ty,pos,af,g⟩,T a,AS.ev ⟨sl,hp,nx⟩ p,find hp m,sub (enc v) j i.size,(q1q i.agg r).map V.d) = (some true,some i,some (.ref m es n.toNat j),some (.dat es (xs.map enc)),some r,some w))
    (h : OpsK P T base ops dr l ⟨(t,w)::sl,hp,nx⟩ K) (x : okF dr l.length (fp ⟨sl,hp,nx⟩ (.load a p)) = true:=by rfl) : OpsK P T base ops dr (⟨some t,.load a p,ty,pos,af,g⟩::l) ⟨sl,hp,nx⟩ K:=by
  simp only [Prod.mk.injEq] at b;obtain ⟨s,c,f,q,u,k⟩:=b;exact que w o s c f q u k h x
theorem Qx {α : Type} {x : Operand} {a : TypeId} {i : TI} {es : Nat} {xs : List α} {enc : α→List DV}
    (b : (Qw ops ⟨sl,hp,nx⟩ ⟨some t,.call {callee:=.builtin .len,args:=#[x],argTypes:=#[a]},ty,pos,af,g⟩,T a,i.kind,AS.ev ⟨sl,hp,nx⟩ x) = (some true,some i,.slice,some (.d (.sl es (xs.map enc)))))
    (h : OpsK P T base ops dr l ⟨(t,.d (.int .i64 (xs.length : Int)))::sl,hp,nx⟩ K) : OpsK P T base ops dr (⟨some t,.call {callee:=.builtin .len,args:=#[x],argTypes:=#[a]},ty,pos,af,g⟩::l) ⟨sl,hp,nx⟩ K:=by
  simp only [Prod.mk.injEq] at b;obtain ⟨j,c,k,f⟩:=b;exact qlv j c k f h
theorem Q5 {c : Call} {f : FuncId} {ds : List DV} {r : DV} {a : List V} (b : Pure P T f ds r) (j : (Qw ops ⟨sl,hp,nx⟩ ⟨some t,.call c,ty,pos,af,g⟩,callee ⟨sl,hp,nx⟩ c,Km hp a,a.all V.isD) = (some true,some (f,a),some ds,true))
    (h : OpsK P T base ops dr l ⟨(t,.d r)::sl,hp,nx⟩ K) (p : okF dr l.length (fpC a) = true:=by rfl) : OpsK P T base ops dr (⟨some t,.call c,ty,pos,af,g⟩::l) ⟨sl,hp,nx⟩ K:=by
  simp only [Prod.mk.injEq] at j;obtain ⟨n,k,o,m⟩:=j;exact q2t a b n k o (.inl m) h p
theorem Q8 {st : AS} {b : List ResultVar} {r : DV} (v : V) (a : (resV T st b,toD st.hp 8 v) = (some v,some r)) : (Ex.ret = .nor∨Ex.ret = .ret)∧∃ v c,resV T st b = some v∧toD st.hp 8 v = some c∧DLe c r:=by
  simp only [Prod.mk.injEq] at a;exact ⟨.inr rfl,v,r,a.1,a.2,.refl _⟩
theorem qc {id : Nat} {ops : Array Oper} {b : Code} {cs : List Code} {st : AS} {K : Ex→AS→Prop} (h : OpsK P T base ops none ops.toList st (fun st'=>RunK P T base (b::cs) st' K)) : RunK P T base (.seq (.region id ops false) b::cs) st K:=qf (Q3 h)
theorem qt {a ops : Array Oper} {id : Nat} {b : Code} {cs : List Code} {st : AS} {K : Ex→AS→Prop} (h : OpsK P T base ops none ops.toList st (fun st'=>RunK P T base (b::cs) st' K)) : OpsK P T base a dr [] st (fun st'=>RunK P T base (.seq (.region id ops false) b::cs) st' K):=q9 (qf (Q3 h))
theorem qv {a : Array Oper} {cs : List Code} {st : AS} {K : Ex→AS→Prop} (h : K .ret st) : OpsK P T base a dr [] st (fun st'=>RunK P T base (.ret::cs) st' K):=q9 (q1t h)
theorem qz {a : Array Oper} {st : AS} {K : Ex→AS→Prop} (h : K .nor st) : OpsK P T base a dr [] st (fun st'=>RunK P T base [] st' K):=q9 (Qk h)
theorem K7 {dst : Option Tmp} {c : Call} {f : FuncId} {m : List V} {hp0 j : List (Nat × Blk)} {k s : Nat} {vR : V} (o p : List (Nat × Nat)) (r : List V) (t : V) (n : Nat) (a : List (Nat × Blk)) (b : Nat) (he : K6 P T f m hp0 k vR j s)
    (h : OpsK P T base ops none l ((⟨sl,a,b⟩ : AS).putD dst t) K)
    (y : Qw ops ⟨sl,hp,nx⟩ ⟨dst,.call c,ty,pos,af,g⟩ = some true:=by exact rfl) (hc : callee ⟨sl,hp,nx⟩ c = some (f,r):=by exact rfl) (q : r.length = m.length:=by exact rfl)
    (o1 : wkOk 0 o [] [] hp0 k = true:=by exact rfl)
    (v : WkL ⟨Y4 0 r,hp,nx⟩ (rho o) [] [] k (Y4 0 m):=by
      repeat' first | exact trivial | refine And.intro (Exists.intro _ (And.intro rfl ?_)) ?_ | exact Wv.d (DLe.refl _) | exact Wv.ref rfl qw (ltd rfl) | exact Wv.mp rfl qw (ltd rfl) | exact Wv.hs rfl qw (ltd rfl) | exact Wv.d (DLe.nil _) | refine qdu ?_ | refine qhl ?_ | refine q2a ?_ | refine WvL.cons ?_ ?_ | exact WvL.nil | exact Wv.dref _ _ | exact Wv.yld rfl qw (ltd rfl))
    (b1 : WkH ⟨Y4 0 r,hp,nx⟩ (rho o) [] [] k hp0:=by
      repeat' first | exact trivial | refine And.intro (And.intro (ltd rfl) (Or.inr (And.intro qw (Exists.intro _ (And.intro rfl ?_))))) ?_ | exact Wb.dat _ _ | exact Wb.mp _ | refine Jk ?_ | refine qhi ?_ | refine WvC.cons ?_ rfl ?_ | exact WvC.nil | exact Wv.d (DLe.refl _) | exact Wv.ref rfl qw (ltd rfl) | exact Wv.mp rfl qw (ltd rfl) | exact Wv.hs rfl qw (ltd rfl) | exact Wv.d (DLe.nil _))
    (u : wkOk 0 p [] [] (a.take n) b = true:=by exact rfl)
    (z : WkL ⟨[(0,vR)],j,s⟩ (rho p) [] [] b [(0,t)]:=by
      repeat' first | exact trivial | refine And.intro (Exists.intro _ (And.intro rfl ?_)) ?_ | exact Wv.d (DLe.refl _) | exact Wv.ref rfl qw (ltd rfl) | exact Wv.mp rfl qw (ltd rfl) | exact Wv.hs rfl qw (ltd rfl) | exact Wv.d (DLe.nil _) | refine qdu ?_ | refine qhl ?_ | refine q2a ?_ | refine WvL.cons ?_ ?_ | exact WvL.nil | exact Wv.dref _ _ | exact Wv.yld rfl qw (ltd rfl))
    (x : WkH ⟨[(0,vR)],j,s⟩ (rho p) [] [] b (a.take n):=by
      repeat' first | exact trivial | refine And.intro (And.intro (ltd rfl) (Or.inr (And.intro qw (Exists.intro _ (And.intro rfl ?_))))) ?_ | exact Wb.dat _ _ | exact Wb.mp _ | refine Jk ?_ | refine qhi ?_ | refine WvC.cons ?_ rfl ?_ | exact WvC.nil | exact Wv.d (DLe.refl _) | exact Wv.ref rfl qw (ltd rfl) | exact Wv.mp rfl qw (ltd rfl) | exact Wv.hs rfl qw (ltd rfl) | exact Wv.d (DLe.nil _))
    (hb : q8b o p k s nx b = true:=by exact rfl)
    (hold : OldL o k hp (a.take n) a:=by repeat' first | exact trivial | refine And.intro (Or.inl rfl) ?_ | refine And.intro (Or.inr (And.intro rfl rfl)) ?_) :
    OpsK P T base ops none (⟨dst,.call c,ty,pos,af,g⟩::l) ⟨sl,hp,nx⟩ K:=
  Jz o p r t (a.take n) a b he y hc q (Yh o [] [] o1 v b1) (Yh p [] [] u z x) hb hold h
end
inductive WvR (st : AS) (ρ : Nat→Nat) (fz ph : List Nat) (nx : Nat) : List (List V)→List (List V)→Prop
  | nil : WvR st ρ fz ph nx [] []
  | cons {c d : List V} {cs ds : List (List V)} : WvC st ρ fz ph nx c d→WvR st ρ fz ph nx cs ds→WvR st ρ fz ph nx (c::cs) (d::ds)
theorem WvR.len {st : AS} {ρ : Nat→Nat} {fz ph : List Nat} {nx : Nat} {cs ds : List (List V)} (h : WvR st ρ fz ph nx cs ds) : cs.length = ds.length:=by
  induction h with
  | nil=>rfl
  | cons _ _ ih=>simp [ih]
theorem WvR.get {st : AS} {ρ : Nat→Nat} {fz ph : List Nat} {nx : Nat} {cs ds : List (List V)} (h : WvR st ρ fz ph nx cs ds) : ∀ (j : Nat) (c d : List V),cs[j]? = some c→ds[j]? = some d→WvC st ρ fz ph nx c d:=by
  induction h with
  | nil=>intro i x y h;simp at h
  | cons h1 _ ih=>
    intro i x y b a
    cases i with
    | zero=>simp at b a;subst b;subst a;exact h1
    | succ i=>exact ih i x y (by simpa using b) (by simpa using a)
theorem q13d {st : AS} {ρ : Nat→Nat} {fz ph : List Nat} {nx es : Nat} {cs ds : List (List V)} (h : WvR st ρ fz ph nx cs ds) : Wb st ρ fz ph nx (.cel es cs) (.cel es ds):=
  .cel h.len fun i x y b a=>⟨(h.get i x y b a).len,(h.get i x y b a).get⟩
theorem q13e {st : AS} {ρ : Nat→Nat} {fz ph : List Nat} {nx es : Nat} {cs : List (List DV)} {ds : List (List V)} (h : WvR st ρ fz ph nx (cs.map (·.map .d)) ds) : Wb st ρ fz ph nx (.dat es cs) (.cel es ds):=by
  refine .datcel (by simpa using h.len) fun i x y f b=>?_;have a:=h.get i (x.map .d) y (by simp [f]) b;refine ⟨by simpa using a.len,fun j c d g hd=>a.get j (.d c) d (by simp [g]) hd⟩
theorem wkA {base : Nat} {st st' : AS} (l : List (Nat × Nat)) (fz ph : List Nat) (a : wkOk base l fz ph st'.hp st'.nx = true:=by exact rfl)
    (hs : WkL st (rho l) fz ph st'.nx st'.sl:=by
      repeat' first | exact trivial | refine And.intro (Exists.intro _ (And.intro rfl ?_)) ?_ | exact Wv.d (DLe.refl _) | exact Wv.ref rfl qw (ltd rfl) | exact Wv.mp rfl qw (ltd rfl) | exact Wv.hs rfl qw (ltd rfl) | exact Wv.d (DLe.nil _) | exact Wv.nil qw (ltd rfl) | exact qp3 rfl rfl qw | refine qdu ?_ | refine q13k ?_ | refine qhl ?_ | refine q13l ?_ | refine q2a ?_ | refine WvL.cons ?_ ?_ | exact WvL.nil | exact Wv.dref _ _ | exact Wv.yld rfl qw (ltd rfl))
    (b : WkH st (rho l) fz ph st'.nx st'.hp:=by
      repeat' first | exact trivial | refine And.intro (And.intro (ltd rfl) (Or.inr (And.intro qw (Exists.intro _ (And.intro rfl ?_))))) ?_ | refine And.intro (And.intro (ltd rfl) (Or.inl (And.intro qw (Exists.intro _ (And.intro qw rfl))))) ?_ | exact Wb.dat _ _ | exact Wb.mp _ | refine Jk ?_ | refine qhi ?_ | refine q13d ?_ | refine q13e ?_ | refine WvR.cons ?_ ?_ | exact WvR.nil | refine q13f ?_ | refine WvS.cons rfl ?_ ?_ | exact WvS.nil | refine WvC.cons ?_ rfl ?_ | exact WvC.nil | exact Wv.d (DLe.refl _) | exact Wv.ref rfl qw (ltd rfl) | exact Wv.mp rfl qw (ltd rfl) | exact Wv.hs rfl qw (ltd rfl) | exact Wv.d (DLe.nil _) | exact Wv.nil qw (ltd rfl) | exact qp3 rfl rfl qw | refine q2a ?_ | refine qdu ?_ | refine WvL.cons ?_ ?_ | exact WvL.nil | exact Wv.yld rfl qw (ltd rfl)) : WkE base st st':=wkE l fz ph a hs b
theorem qp {st : AS} {ρ : Nat→Nat} {fz ph : List Nat} {nx t : Nat} {x : DV} (h : st.get t = some (.d x)) : ∃ v,st.get t = some v∧Wv st ρ fz ph nx v (.d x):=⟨_,h,.d (.refl _)⟩
theorem Qo {st : AS} {ρ : Nat→Nat} {fz ph : List Nat} {nx n es : Nat} {xs : List (List DV)} (c : Nat.blt n nx = true) (d : st.blk (ρ n) = some (.dat es xs)) (a : n ∉ ph:=by decide) :
    n < nx∧((n∈ph∧∃ e,e≠0∧(Blk.dat es xs) = .dat e [])∨(n ∉ ph∧∃ b,st.blk (ρ n) = some b∧Wb st ρ fz ph nx b (.dat es xs))):=⟨ltd c,.inr ⟨a,_,d,.dat _ _⟩⟩
abbrev q6 : Option (List Nat) × List Nat:=(some [],[])
abbrev qx (n : Nat) : Option (List Nat) × List Nat:=(some [n],[])
abbrev Qu (n : Nat) : Option (List Nat) × List Nat:=(some [n],[n])
end Go.Am
namespace Go.Am
open Go
inductive DLeR : List (List DV)→List (List DV)→Prop
  | nil : DLeR [] []
  | cons {x y : List DV} {xs ys : List (List DV)} : DLeL x y→DLeR xs ys→DLeR (x::xs) (y::ys)
section
variable {P : Program} {T : Tab} {base : Nat} {ops : Array Oper} {dr : Dr} {l : List Oper} {sl : List (Nat × V)} {hp : List (Nat × Blk)} {nx : Nat} {K : AS→Prop} {ty : TypeId} {pos : String} {af : Array Edge} {t : Tmp} {g : Option (Nat × Bool)}
end
end Go.Am
