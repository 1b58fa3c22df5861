/- St20 St21 St22 St23 St24 St25 St26 St27 St35 -/
import Derived.Test.YtgkialgkmjnfbaaGreatK14
namespace Go.Sh
open Go Go.Am
open Classical
theorem q86 {α β : Type} {f : α→List β} {c : Nat} : ∀ {l : List α},(∀ x∈l,(f x).length = c)→(l.flatMap f).length = l.length * c
  | [],_=>by simp
  | a::l,h=>by
    rw [List.flatMap_cons,List.length_append,h a qb,q86 (l:=l) fun x b=>h x (by simp [b]),List.length_cons,Nat.succ_mul]
    omega
theorem qki {α : Type} (p : α→Bool) : ∀ l : List α,(l.filter p).length + (l.filter fun x=>!p x).length = l.length
  | []=>rfl
  | a::l=>by
    have:=qki p l
    cases h : p a <;> simp [h] <;> omega
noncomputable def q3u (l : List qu) : List qa:=l.flatMap (fun s=>[s.A,s.B]) ++ (l.filter fun s=>decide (s.A.Y = s.B.Y)).flatMap fun h=>(l.filter fun s=>!decide (s.A.Y = s.B.Y)).map fun v=>({X:=v.A.X,Y:=h.A.Y} : qa)
theorem qz8 : ∀ h,h < 25→∀ v,v < 25→h + v≤24→h * v≤144:=by decide
theorem qj0 {l : List qu} (c : l.length≤24) : (q3u l).length≤192:=by
  have e1 : (l.flatMap fun s=>[s.A,s.B]).length = l.length * 2:=q86 fun _ _=>rfl;have a : ((l.filter fun s=>decide (s.A.Y = s.B.Y)).flatMap fun h=>(l.filter fun s=>!decide (s.A.Y = s.B.Y)).map fun v=>({X:=v.A.X,Y:=h.A.Y} : qa)).length = (l.filter fun s=>decide (s.A.Y = s.B.Y)).length * (l.filter fun s=>!decide (s.A.Y = s.B.Y)).length:=q86 fun _ _=>by simp
  have b:=qki (fun s : qu=>decide (s.A.Y = s.B.Y)) l;unfold q3u;rw [List.length_append,e1,a];have:=qz8 _ (show (l.filter fun s : qu=>decide (s.A.Y = s.B.Y)).length < 25 by omega) _ (show (l.filter fun s : qu=>!decide (s.A.Y = s.B.Y)).length < 25 by omega) q7;omega
theorem q6h {l : List qu} {y x : Int} : rowP l y x↔∃ s∈l,s.A.Y = s.B.Y∧s.A.Y = y∧min s.A.X s.B.X≤x∧x < max s.A.X s.B.X:=by
  constructor
  · rintro ⟨⟨k,t⟩,hp,rfl,b,a⟩;obtain ⟨s,hs,c,rfl,rfl⟩:=q5p.1 hp;exact ⟨s,hs,c,rfl,b,a⟩
  · rintro ⟨s,hs,c,rfl,b,a⟩;exact ⟨(_,_),q5p.2 ⟨s,hs,c,rfl,rfl⟩,rfl,b,a⟩
theorem q58 {l : List qu} {x y : Int} : colP l x y↔∃ s∈l,s.A.Y≠s.B.Y∧s.A.X = x∧min s.A.Y s.B.Y≤y∧y < max s.A.Y s.B.Y:=by
  constructor
  · rintro ⟨⟨k,t⟩,hp,rfl,b,a⟩;obtain ⟨s,hs,c,rfl,rfl⟩:=q5o.1 hp;exact ⟨s,hs,c,rfl,b,a⟩
  · rintro ⟨s,hs,c,rfl,b,a⟩;exact ⟨(_,_),q5o.2 ⟨s,hs,c,rfl,rfl⟩,rfl,b,a⟩
theorem qm4 {l : List qu} {p : qa} : p∈q3u l↔(∃ s∈l,p = s.A∨p = s.B)∨∃ h∈l,h.A.Y = h.B.Y∧∃ v∈l,v.A.Y≠v.B.Y∧p = {X:=v.A.X,Y:=h.A.Y}:=by
  simp only [q3u,List.mem_append,List.mem_flatMap,List.mem_cons,List.not_mem_nil,or_false,List.mem_filter,List.mem_map,decide_eq_true_eq,Bool.not_eq_true',decide_eq_false_iff_not];constructor
  · rintro (h | ⟨h,⟨c,a⟩,v,⟨d,b⟩,rfl⟩)
    · exact .inl h
    · exact .inr ⟨h,c,a,v,d,b,rfl⟩
  · rintro (h | ⟨h,c,a,v,d,b,rfl⟩)
    · exact .inl h
    · exact .inr ⟨h,⟨c,a⟩,v,⟨d,b⟩,rfl⟩
theorem q10b {l : List qu} (m : ∀ s∈l,SegV s) {c d : Int} (e : rowP l d c) (w : ¬ rowP l d (c - 1)) : ∃ s∈l,({X:=c,Y:=d} : qa) = s.A∨({X:=c,Y:=d} : qa) = s.B:=by
  obtain ⟨a,b,j,k,u,o⟩:=q6h.1 e;have h : ¬ (min a.A.X a.B.X≤c - 1∧c - 1 < max a.A.X a.B.X):=fun g=>w (q6h.2 ⟨a,b,j,k,g.1,g.2⟩);have p:=(m a b).or;refine ⟨a,b,?_⟩;rcases Int.le_total a.A.X a.B.X with f | f
  · left;obtain ⟨⟨q,t⟩,r⟩:=a;simp only [qa.mk.injEq] at *;omega
  · right;obtain ⟨v,⟨bx,n⟩⟩:=a;simp only [qa.mk.injEq] at *;omega
theorem q10a {l : List qu} (m : ∀ s∈l,SegV s) {c d : Int} (e : rowP l d (c - 1)) (w : ¬ rowP l d c) : ∃ s∈l,({X:=c,Y:=d} : qa) = s.A∨({X:=c,Y:=d} : qa) = s.B:=by
  obtain ⟨a,b,j,k,u,o⟩:=q6h.1 e;have h : ¬ (min a.A.X a.B.X≤c∧c < max a.A.X a.B.X):=fun g=>w (q6h.2 ⟨a,b,j,k,g.1,g.2⟩);have p:=(m a b).or;refine ⟨a,b,?_⟩;rcases Int.le_total a.A.X a.B.X with f | f
  · right;obtain ⟨v,⟨bx,n⟩⟩:=a;simp only [qa.mk.injEq] at *;omega
  · left;obtain ⟨⟨q,t⟩,r⟩:=a;simp only [qa.mk.injEq] at *;omega
theorem qjh {l : List qu} (m : ∀ s∈l,SegV s) {d c : Int} (e : colP l d c) (w : ¬ colP l d (c - 1)) : ∃ s∈l,({X:=d,Y:=c} : qa) = s.A∨({X:=d,Y:=c} : qa) = s.B:=by
  obtain ⟨a,b,j,k,u,o⟩:=q58.1 e;have h : ¬ (min a.A.Y a.B.Y≤c - 1∧c - 1 < max a.A.Y a.B.Y):=fun g=>w (q58.2 ⟨a,b,j,k,g.1,g.2⟩);have p:=(m a b).or;refine ⟨a,b,?_⟩;rcases Int.le_total a.A.Y a.B.Y with f | f
  · left;obtain ⟨⟨q,t⟩,r⟩:=a;simp only [qa.mk.injEq] at *;omega
  · right;obtain ⟨v,⟨bx,n⟩⟩:=a;simp only [qa.mk.injEq] at *;omega
theorem qjg {l : List qu} (m : ∀ s∈l,SegV s) {d c : Int} (e : colP l d (c - 1)) (w : ¬ colP l d c) : ∃ s∈l,({X:=d,Y:=c} : qa) = s.A∨({X:=d,Y:=c} : qa) = s.B:=by
  obtain ⟨a,b,j,k,u,o⟩:=q58.1 e;have h : ¬ (min a.A.Y a.B.Y≤c∧c < max a.A.Y a.B.Y):=fun g=>w (q58.2 ⟨a,b,j,k,g.1,g.2⟩);have p:=(m a b).or;refine ⟨a,b,?_⟩;rcases Int.le_total a.A.Y a.B.Y with f | f
  · right;obtain ⟨v,⟨bx,n⟩⟩:=a;simp only [qa.mk.injEq] at *;omega
  · left;obtain ⟨⟨q,t⟩,r⟩:=a;simp only [qa.mk.injEq] at *;omega
theorem qgn {l : List qu} (c : ∀ s∈l,SegV s) {p : qa} (h : Ki (rowP l) (colP l) p.X p.Y) : p∈q3u l:=by
  rw [qm4];obtain ⟨a,b⟩:=p;simp only at h;by_cases e : rowP l b a
  · by_cases w : rowP l b (a - 1)
    · by_cases n : colP l a b
      · by_cases s : colP l a (b - 1)
        · right;obtain ⟨j,f,m,g,u,r⟩:=q6h.1 e;obtain ⟨q,d,o,k,v,t⟩:=q58.1 n;exact ⟨j,f,m,q,d,o,by rw [k,g]⟩
        · exact .inl (qjh c n s)
      · by_cases s : colP l a (b - 1)
        · exact .inl (qjg c s n)
        · exfalso;unfold Ki at h;rw [Q2 e,Q2 w,Q4 n,Q4 s] at h;exact absurd h qy
    · exact .inl (q10b c e w)
  · by_cases w : rowP l b (a - 1)
    · exact .inl (q10a c w e)
    · by_cases n : colP l a b
      · by_cases s : colP l a (b - 1)
        · exfalso;unfold Ki at h;rw [Q4 e,Q4 w,Q2 n,Q2 s] at h;exact absurd h qy
        · exact .inl (qjh c n s)
      · by_cases s : colP l a (b - 1)
        · exact .inl (qjg c s n)
        · exfalso;unfold Ki at h;rw [Q4 e,Q4 w,Q4 n,Q4 s] at h;exact absurd h qy
theorem qlv {l : List qu} (d : l.length≤24) (c : ∀ s∈l,SegV s) : ∃ n,Uw l = some (n,0)∧qdz l = some (n,0)∧J2 (rowP l) (colP l) n∧J3 n (Zd n)∧n.Nodes.length≤192:=by
  rcases qvi (l:=l) q7 c with ⟨n,e1,j,h⟩ | ⟨_,_,b,f,m,g⟩
  · have k : n.Nodes.Nodup:=h.nodes.srt.imp (by rintro a b h rfl;exact q35 a a h h);have:=List.Nodup.length_le_of_subset k (l₂:=q3u l) fun p hp=>qgn c ((h.nodes.mem p).1 hp);have:=qj0 d;have:=h.elen;exact ⟨n,e1,j,h,q12v (qiv q7 c) h q7,q7⟩
  · have:=List.Nodup.length_le_of_subset f (l₂:=q3u l) fun p hp=>qgn c (g p hp);have:=qj0 d;omega
end Go.Sh
namespace Go.Sh
open Go Go.Am
open Classical
def Len64 {α : Type} (l : List α) : Prop:=(l.length : Int)≤9223372036854775807
theorem qvf (l : List qu) (g : Len64 l) : q8a l = some (decide ((∀ s∈l,SegV s)∧l.length≤24)):=by
  unfold Len64 at g;have:=Kp (f:=q33 l) (σ:=Unit) (fun k _=>(k : Int)) l.length (fun k _=>∀ i (hi : i < l.length),i < k→SegV l[i]) (fun o=>o = if ∀ s∈l,SegV s then .inl () else .inr false) ?_ ?_ (k0:=0) (c0:=()) q7 (fun i hi h=>q7)
  · obtain ⟨o,e,d⟩:=this;have e : loop (q33 l) 0 = some o:=e;unfold q8a;rw [e,d];by_cases h : ∀ s∈l,SegV s
    · rw [Q0 h];simp only [qn];congr 1;exact decide_eq_decide.2 ⟨fun a=>⟨h,q7⟩,fun a=>by have:=a.2;omega⟩
    · rw [Q3 h];simp only [qn];rw [Q4 (fun a=>h a.1)]
  · rintro k _ hk c;by_cases b : SegV l[k]
    · refine .inl ⟨(),?_,fun i hi j=>?_⟩
      · simp only [q33,dlt' hk,Q1,Qu hk,qn,qe5,Q2 b,Bool.not_true,qx];rw [Q9 q7];rfl
      · by_cases e : i = k
        · subst e;exact b
        · exact c i hi q7
    · refine .inr ⟨.inr false,?_,by rw [Q3 (fun h=>b (h _ (Kb hk)))]⟩;simp only [q33,dlt' hk,Q1,Qu hk,qn,qe5,Q4 b,Bool.not_false]
  · rintro _ c;refine ⟨.inl (),by simp only [q33,dnl',qx],?_⟩;rw [Q0];intro s hs;obtain ⟨i,hi,rfl⟩:=List.mem_iff_getElem.1 hs;exact c i hi hi
theorem qts {F G : Int→Int→Prop} {n : Qh} (h : J2 F G n) (a : n.Edges.length≤400) : Fit n:=⟨⟨by have:=h.nlen;omega,q7⟩,.inl a⟩
theorem J3.fit {n : Qh} {l : List qu} (h : J3 n l) : Fit n:=qts h.net h.le
end Go.Sh
namespace Go.Sh
open Go Go.Am
open Classical
end Go.Sh
namespace Go.Sh
open Go Go.Am
def nxX (N : List qa) (i k : Nat) : Bool:=decide (i < k) && decide (k < N.length) && decide ((N[k]?).map (·.X) = (N[i]?).map (·.X)) && (List.range N.length).all fun j=>!(decide (i < j) && decide (j < k)) || !decide ((N[j]?).map (·.X) = (N[i]?).map (·.X))
def nxY (N : List qa) (i k : Nat) : Bool:=decide (i < k) && decide (k < N.length) && decide ((N[k]?).map (·.Y) = (N[i]?).map (·.Y)) && (List.range N.length).all fun j=>!(decide (i < j) && decide (j < k)) || !decide ((N[j]?).map (·.Y) = (N[i]?).map (·.Y))
theorem qw4 {N : List qa} {i k : Nat} : nxX N i k = true↔Yj N i k:=by
  simp only [nxX,Bool.and_eq_true,decide_eq_true_eq,List.all_eq_true,List.mem_range,Bool.or_eq_true,Bool.not_eq_true',Bool.and_eq_false_iff,decide_eq_false_iff_not];constructor
  · rintro ⟨⟨⟨l,a⟩,f⟩,g⟩;have hi : i < N.length:=by omega
    rw [List.getElem?_eq_getElem a,List.getElem?_eq_getElem hi] at f;refine ⟨l,a,fun _ _=>Zk f,fun j _ b d c e=>?_⟩;rcases g j b with (h | h) | h
    · exact h d
    · exact h c
    · rw [List.getElem?_eq_getElem b,List.getElem?_eq_getElem hi] at h;exact h (congrArg some e)
  · rintro ⟨l,a,f,g⟩;have hi : i < N.length:=by omega
    refine ⟨⟨⟨l,a⟩,?_⟩,fun j b=>?_⟩
    · rw [List.getElem?_eq_getElem a,List.getElem?_eq_getElem hi];exact congrArg some (f hi a)
    · by_cases d : i < j
      · by_cases c : j < k
        · right;rw [List.getElem?_eq_getElem b,List.getElem?_eq_getElem hi];exact fun e=>g j hi b d c (Zk e)
        · exact .inl (.inr c)
      · exact .inl (.inl d)
theorem qw5 {N : List qa} {i k : Nat} : nxY N i k = true↔Yk N i k:=by
  simp only [nxY,Bool.and_eq_true,decide_eq_true_eq,List.all_eq_true,List.mem_range,Bool.or_eq_true,Bool.not_eq_true',Bool.and_eq_false_iff,decide_eq_false_iff_not];constructor
  · rintro ⟨⟨⟨l,a⟩,f⟩,g⟩;have hi : i < N.length:=by omega
    rw [List.getElem?_eq_getElem a,List.getElem?_eq_getElem hi] at f;refine ⟨l,a,fun _ _=>Zk f,fun j _ b d c e=>?_⟩;rcases g j b with (h | h) | h
    · exact h d
    · exact h c
    · rw [List.getElem?_eq_getElem b,List.getElem?_eq_getElem hi] at h;exact h (congrArg some e)
  · rintro ⟨l,a,f,g⟩;have hi : i < N.length:=by omega
    refine ⟨⟨⟨l,a⟩,?_⟩,fun j b=>?_⟩
    · rw [List.getElem?_eq_getElem a,List.getElem?_eq_getElem hi];exact congrArg some (f hi a)
    · by_cases d : i < j
      · by_cases c : j < k
        · right;rw [List.getElem?_eq_getElem b,List.getElem?_eq_getElem hi];exact fun e=>g j hi b d c (Zk e)
        · exact .inl (.inr c)
      · exact .inl (.inl d)
def rowB (l : List qu) (y x : Int) : Bool:=l.any fun s=>decide (s.A.Y = s.B.Y) && decide (s.A.Y = y) && decide (min s.A.X s.B.X≤x) && decide (x < max s.A.X s.B.X)
def colB (l : List qu) (x y : Int) : Bool:=l.any fun s=>!decide (s.A.Y = s.B.Y) && decide (s.A.X = x) && decide (min s.A.Y s.B.Y≤y) && decide (y < max s.A.Y s.B.Y)
theorem q9e {l : List qu} {y x : Int} : rowB l y x = true↔rowP l y x:=by
  rw [q6h];simp only [rowB,List.any_eq_true,Bool.and_eq_true,decide_eq_true_eq,and_assoc]
theorem q7r {l : List qu} {x y : Int} : colB l x y = true↔colP l x y:=by
  rw [q58];simp only [colB,List.any_eq_true,Bool.and_eq_true,decide_eq_true_eq,Bool.not_eq_true',decide_eq_false_iff_not,and_assoc]
def edgB (l : List qu) (N : List qa) (i k : Nat) : Bool:=match N[i]? with
  | some p=>(nxX N i k && colB l p.X p.Y) || (nxY N i k && rowB l p.Y p.X)
  | none=>false
theorem qjy {l : List qu} {N : List qa} {i k : Nat} : edgB l N i k = true↔q45 (rowP l) (colP l) N i k:=by
  unfold edgB q45;by_cases hi : i < N.length
  · simp only [List.getElem?_eq_getElem hi,Bool.or_eq_true,Bool.and_eq_true,qw4,qw5,q9e,q7r];exact ⟨fun h=>⟨hi,h⟩,fun ⟨_,h⟩=>h⟩
  · rw [List.getElem?_eq_none q7];exact ⟨fun h=>(by cases h),fun ⟨h,_⟩=>absurd h hi⟩
instance (a b : qj) : Decidable (ltG a b):=by unfold ltG;exact inferInstance
def srtG : List qj→Bool
  | []=>true
  | a::r=>(r.all fun b=>decide (ltG a b)) && srtG r
def srtP : List qa→Bool
  | []=>true
  | a::r=>(r.all fun b=>decide (ltP a b)) && srtP r
theorem qp1 : ∀ {l : List qj},srtG l = true→l.Pairwise ltG
  | [],_=>.nil
  | a::r,h=>by
    simp only [srtG,Bool.and_eq_true,List.all_eq_true,decide_eq_true_eq] at h
    exact List.pairwise_cons.2 ⟨h.1,qp1 h.2⟩
theorem qp2 : ∀ {l : List qa},srtP l = true→l.Pairwise ltP
  | [],_=>.nil
  | a::r,h=>by
    simp only [srtP,Bool.and_eq_true,List.all_eq_true,decide_eq_true_eq] at h
    exact List.pairwise_cons.2 ⟨h.1,qp2 h.2⟩
def qfk (l : List qu) (n : Qh) : Bool:=srtG n.Edges && (n.Edges.all fun e=>decide (0≤e.A) && decide (0≤e.B) && edgB l n.Nodes e.A.toNat e.B.toNat) && (List.range n.Nodes.length).all fun i=>(List.range n.Nodes.length).all fun k=>!edgB l n.Nodes i k || n.Edges.any fun e=>decide (e = {A:=(i : Int),B:=(k : Int)})
theorem qt6 {l : List qu} {n : Qh} (h : qfk l n = true) : q3p (rowP l) (colP l) n.Nodes n.Edges:=by
  simp only [qfk,Bool.and_eq_true,List.all_eq_true,decide_eq_true_eq,List.mem_range,Bool.or_eq_true,Bool.not_eq_true',List.any_eq_true] at h;obtain ⟨⟨j,g⟩,o⟩:=h;refine ⟨qp1 j,fun e=>⟨fun d=>?_,?_⟩⟩
  · obtain ⟨⟨a,b⟩,c⟩:=g e d;refine ⟨e.A.toNat,e.B.toNat,?_,qjy.1 c⟩;obtain ⟨q,p⟩:=e;simp only [qj.mk.injEq] at a b ⊢;omega
  · rintro ⟨i,k,rfl,d⟩;have hi : i < n.Nodes.length:=d.1;have hk : k < n.Nodes.length:=by obtain ⟨_,⟨h,_⟩ | ⟨h,_⟩⟩:=d <;> exact h.hk
    rcases o i hi k hk with f | ⟨e,m,rfl⟩
    · rw [qjy.2 d] at f;cases f
    · exact m
def qdm (l : List qu) (p : qa) : Bool:=q36 (rowB l p.Y p.X) (colB l p.X p.Y) (rowB l p.Y (p.X - 1)) (colB l p.X (p.Y - 1))
open Classical in
theorem qmp {l : List qu} {p : qa} : qdm l p = true↔Ki (rowP l) (colP l) p.X p.Y:=by
  unfold qdm Ki
  have e : ∀ {b : Bool} {P : Prop},(b = true↔P)→b = decide P:=by
    intro b P h;cases b
    · symm;exact Q4 (fun hp=>by have:=h.2 hp;cases this)
    · symm;exact Q2 (h.1 rfl)
  rw [e q9e,e q7r,e q9e,e q7r]
def qiz (l : List qu) : List qa:=l.flatMap (fun s=>[s.A,s.B]) ++ l.flatMap fun h=>l.map fun v=>({X:=v.A.X,Y:=h.A.Y} : qa)
def qgp (l : List qu) (N : List qa) : Bool:=srtP N && (N.all fun p=>qdm l p) && (qiz l).all fun p=>!qdm l p || N.any fun q=>decide (q = p)
theorem qw0 {l : List qu} {N : List qa} (m : ∀ s∈l,SegV s) (h : qgp l N = true) : Y4 (rowP l) (colP l) N:=by
  simp only [qgp,Bool.and_eq_true,List.all_eq_true,Bool.or_eq_true,Bool.not_eq_true',List.any_eq_true,decide_eq_true_eq] at h;obtain ⟨⟨n,d⟩,g⟩:=h;refine ⟨qp2 n,fun p=>⟨fun hp=>qmp.1 (d p hp),fun b=>?_⟩⟩
  have o : p∈qiz l:=by
    rcases qm4.1 (qgn m b) with ⟨s,hs,k⟩ | ⟨h,f,_,v,a,_,rfl⟩
    · exact List.mem_append_left _ (List.mem_flatMap.2 ⟨s,hs,by rcases k with rfl | rfl <;> simp⟩)
    · exact List.mem_append_right _ (List.mem_flatMap.2 ⟨h,f,List.mem_map.2 ⟨v,a,rfl⟩⟩)
  rcases g p o with c | ⟨q,j,rfl⟩
  · rw [qmp.2 b] at c;cases c
  · exact j
def ptB (p : qa) : Bool:=decide (-1000000≤p.X) && decide (p.X≤1000000) && decide (-1000000≤p.Y) && decide (p.Y≤1000000)
def segB (s : qu) : Bool:=ptB s.A && ptB s.B && (decide (s.A.X = s.B.X) != decide (s.A.Y = s.B.Y))
theorem q11l {s : qu} (h : segB s = true) : SegV s:=by
  simp only [segB,ptB,Bool.and_eq_true,decide_eq_true_eq,bne_iff_ne,ne_eq,decide_eq_decide] at h;obtain ⟨⟨⟨⟨⟨b,d⟩,g⟩,a⟩,⟨⟨b1,b2⟩,j⟩,f⟩,c⟩:=h;refine ⟨⟨b,d,g,a⟩,⟨b1,b2,j,f⟩,?_⟩;by_cases e1 : s.A.X = s.B.X <;> by_cases k : s.A.Y = s.B.Y <;> simp [e1,k] at c ⊢
def netB (l : List qu) (n : Qh) : Bool:=l.all segB && decide (l.length≤24) && qgp l n.Nodes && qfk l n
theorem q8k {l : List qu} {n : Qh} (h : netB l n = true) : (∀ s∈l,SegV s)∧l.length≤24∧J2 (rowP l) (colP l) n∧J3 n (Zd n)∧Uw l = some (n,0):=by
  simp only [netB,Bool.and_eq_true,List.all_eq_true,decide_eq_true_eq] at h;obtain ⟨⟨⟨q,k⟩,o⟩,p⟩:=h;have j : ∀ s∈l,SegV s:=fun s hs=>q11l (q s hs);obtain ⟨m,e1,_,g,hs,_⟩:=qlv k j;have f : m.Nodes = n.Nodes:=qmr g.nodes (qw0 j o);have O : m.Edges = n.Edges:=qk2 (by rw [← f];exact g.edges) (qt6 p)
  have : m = n:=by
    obtain ⟨a,b⟩:=m;obtain ⟨c,d⟩:=n;simp only at f O;rw [f,O]
  subst this;exact ⟨j,k,g,hs,e1⟩
end Go.Sh
namespace Go.Sh
open Go Go.Am
open Classical
theorem qkk (p : qa) : q40 p = some (decide (PtB p)):=by
  unfold q40;by_cases h : PtB p
  · have a:=h;unfold PtB at a;rw [Q2 h,Q9 q7,Q9 q7,Q2 (show max (max (max p.X (0 - p.X)) p.Y) (0 - p.Y)≤1000000 by omega),Q1,Q2 (show min p.X p.Y ≥ -1000000 by omega)];rfl
  · have a:=h;unfold PtB at a;rw [Q4 h];by_cases b : (max (max (max p.X (w64 (0 - p.X))) p.Y) (w64 (0 - p.Y)))≤1000000
    · rw [Q2 b,Q1,Q4 (show ¬ min p.X p.Y ≥ -1000000 by omega)];rfl
    · rw [Q4 b];rfl
def dirs : List qa:=[{X:=1,Y:=0},{X:=0,Y:=1},{X:=(-1),Y:=0},{X:=0,Y:=(-1)}]
theorem qke : q5a [] = some 0:=by
  unfold q5a;have : loop (qcy []) 0 = some (.inl ()):=Kh rfl;rw [this];rfl
theorem qtm (p : qa) : q81 [] p = some 2:=by
  unfold q81 qcz;have : loop (qd0 [] p) (0,0) = some 0:=Kh rfl;rw [this];rfl
theorem qpm {p : qa} {h : Nat} {d : qa} (g : h < 4) (hd : dirs[h]? = some d) (hp : PtB p) (f : PtB {X:=p.X + d.X,Y:=p.Y + d.Y}) : q3z [] p (h : Int) 1 = some ([p,{X:=p.X + d.X,Y:=p.Y + d.Y}],0):=by
  have b:=f;unfold PtB at b;simp only at b
  have c : idxA 4 dirs (h : Int) = some d:=by
    unfold idxA;simp only [Int.toNat_natCast]
    first
      | (rw [Q0 q7];exact hd)
      | (rw [Q0 ⟨q7,q7⟩];exact hd)
      | simp [hd,g]
  have s0 : q5b 1 [] ((h : Int),0,p.X,p.Y,[p]) = some (.inl ((h : Int),1,p.X + d.X,p.Y + d.Y,[p,{X:=p.X + d.X,Y:=p.Y + d.Y}])):=by
    unfold q5b;have a : idxA 4 [({X:=1,Y:=0} : qa),({X:=0,Y:=1} : qa),({X:=(-1),Y:=0} : qa),({X:=0,Y:=(-1)} : qa)] (h : Int) = some d:=c;have c0 : decide ((0 : Int) < 1) = true:=rfl;have c2 : decide ((2 : Int) < 2) = false:=rfl;simp only [c0,Q1,qtm,qn,c2,qx,a];rw [Q9 (x:=p.X + d.X) q7,Q9 (x:=p.Y + d.Y) q7,qkk,Q2 f];rfl
  have s1 : q5b 1 [] ((h : Int),1,p.X + d.X,p.Y + d.Y,[p,{X:=p.X + d.X,Y:=p.Y + d.Y}]) = some (.inr (.inl [p,{X:=p.X + d.X,Y:=p.Y + d.Y}])):=rfl;unfold q3z;have e0 : ((0 : Int) != 0) = false:=rfl;rw [qke,qn,e0,qx,qkk,Q2 hp,qn,Bool.not_true,qx,qn,Q4 (show ¬ (h : Int) > 3 by omega),qx,qn];have c1 : decide ((1 : Int) < 0) = false:=rfl;have c3 : decide ((1 : Int) > 500) = false:=rfl;rw [c1,qx,qn,c3,qx,Kf s0,Kh s1];rfl
theorem qjt {h : Nat} {d : qa} (b : h < 4) (hd : dirs[h]? = some d) : q9l dirs d = some (h : Int):=by
  have nx : ∀ (d : qa) (k : Nat) (e : qa),dirs[k]? = some e→k < 4→e≠d→q2i dirs d (k : Int) = some (.inl ((k + 1 : Nat) : Int)):=by
    intro d k e c hk f;unfold q2i;rw [Q2 (show (k : Int) < (dirs.length : Int) by have : dirs.length = 4:=rfl;omega),Q1];have : idx dirs (k : Int) = some e:=by unfold idx;simp [c]
    rw [this,qn,beqP,Q4 (fun h=>f h.symm),qx,Q9 q7];rfl
  have fd : ∀ (d : qa) (k : Nat),dirs[k]? = some d→k < 4→q2i dirs d (k : Int) = some (.inr (.inr (k : Int))):=by
    intro d k c hk;unfold q2i;rw [Q2 (show (k : Int) < (dirs.length : Int) by have : dirs.length = 4:=rfl;omega),Q1];have : idx dirs (k : Int) = some d:=by unfold idx;simp [c]
    rw [this,qn,beqP,Q2 rfl,Q1]
  have key : loop (q2i dirs d) ((0 : Nat) : Int) = some (.inr (h : Int)):=by
    have : h = 0∨h = 1∨h = 2∨h = 3:=by omega
    rcases this with rfl | rfl | rfl | rfl
    · exact Kh (fd d 0 hd b)
    · cases hd;rw [Kf (nx _ 0 _ rfl q7 qy)];exact Kh (fd _ 1 rfl b)
    · cases hd;rw [Kf (nx _ 0 _ rfl q7 qy),Kf (nx _ 1 _ rfl q7 qy)];exact Kh (fd _ 2 rfl b)
    · cases hd;rw [Kf (nx _ 0 _ rfl q7 qy),Kf (nx _ 1 _ rfl q7 qy),Kf (nx _ 2 _ rfl q7 qy)];exact Kh (fd _ 3 rfl b)
  have a : loop (q2i dirs d) 0 = some (.inr (h : Int)):=key;unfold q9l;rw [a];rfl
end Go.Sh
namespace Go.Sh
open Go Go.Am
def qeg (w : Yw) (h k : Nat) (vis : List (qa × Bool)) (segs : List qu) (p q : qa) : Option ((Int × Int × (List (qa × Bool)) × List qu × Int × Int) ⊕ (((List (qa × Bool)) × List qu) ⊕ (Int × (List (qa × Bool)) × List qu))):=
  (cond (K5 false q vis) (some true) (some ((q.X == w.At.X) && ((q.Y == w.At.Y) && true)))).bind fun c=>cond c (some (.inr (.inl (Ka q true (Ka p true vis),segs)))) (some (.inl ((h : Int),((k + 1 : Nat) : Int),Ka q true (Ka p true vis),segs,q.X,q.Y)))
theorem qpq (w : Yw) {h : Nat} {d : qa} (n : h < 4) (hd : dirs[h]? = some d) (hk : 0 < w.Steps) (p : qa) (hp : PtB p) (o : PtB {X:=p.X + d.X,Y:=p.Y + d.Y}) (l : List (qa × Bool)) (c : List qu) (hs : c.length < 400) :
    Zz w [] ((h : Int),0,l,c,p.X,p.Y) = qeg w h 0 l (c ++ [{A:=p,B:={X:=p.X + d.X,Y:=p.Y + d.Y}}]) p {X:=p.X + d.X,Y:=p.Y + d.Y}:=by
  have hp':=hp;have k:=o;unfold PtB at hp' k;simp only at k;have r:=qpm n hd hp o
  have q : ({X:=w64 (p.X + d.X - p.X),Y:=w64 (p.Y + d.Y - p.Y)} : qa) = d:=by
    rw [Q9 q7,Q9 q7];obtain ⟨a,b⟩:=d;simp only [qa.mk.injEq];omega
  have f : IntKind.wrap .u8 (h : Int) = (h : Int):=by
    have : h = 0∨h = 1∨h = 2∨h = 3:=by omega
    rcases this with rfl | rfl | rfl | rfl <;> rfl
  have g:=qjt n hd;unfold dirs at g;have e0 : ((0 : Int) != 0) = false:=rfl;have j : ∀ a b : qa,idx [a,b] 1 = some b:=fun a b=>rfl;have s : decide ((0 : Int) > 0) = false:=rfl;unfold Zz qeg;simp only [Q2 hk,Q1];have m : q3z [] ({X:=p.X,Y:=p.Y} : qa) (h : Int) 1 = some ([p,{X:=p.X + d.X,Y:=p.Y + d.Y}],0):=r;simp only [m,qn,e0,qx,j,q,g,s,f];rw [Yh (by simp;omega)];simp only [qn];rw [Q4 (show ¬ (((c ++ [({A:={X:=p.X,Y:=p.Y},B:={X:=p.X + d.X,Y:=p.Y + d.Y}} : qu)]).length : Int) > 400) by simp;omega),qx];simp only [qn];rw [Q9 q7];rfl
theorem qen (w : Yw) {h : Nat} {d : qa} (t : h < 4) (hd : dirs[h]? = some d) {k : Nat} (ab : 0 < k) (hk : (k : Int) < w.Steps) (y : k≤1000) (p : qa) (hp : PtB p) (v : PtB {X:=p.X + d.X,Y:=p.Y + d.Y}) (o : List (qa × Bool)) (c : List qu) (s : qu) (hs : c.length≤400) :
    Zz w [] ((h : Int),(k : Int),o,c ++ [s],p.X,p.Y) = qeg w h k o (c ++ [{A:=s.A,B:={X:=p.X + d.X,Y:=p.Y + d.Y}}]) p {X:=p.X + d.X,Y:=p.Y + d.Y}:=by
  have hp':=hp;have n:=v;unfold PtB at hp' n;simp only at n;have z:=qpm t hd hp v
  have x : ({X:=w64 (p.X + d.X - p.X),Y:=w64 (p.Y + d.Y - p.Y)} : qa) = d:=by
    rw [Q9 q7,Q9 q7];obtain ⟨a,b⟩:=d;simp only [qa.mk.injEq];omega
  have g : IntKind.wrap .u8 (h : Int) = (h : Int):=by
    have : h = 0∨h = 1∨h = 2∨h = 3:=by omega
    rcases this with rfl | rfl | rfl | rfl <;> rfl
  have j:=qjt t hd;unfold dirs at j;have e0 : ((0 : Int) != 0) = false:=rfl;have l : ∀ a b : qa,idx [a,b] 1 = some b:=fun a b=>rfl;have hg : decide ((k : Int) > 0) = true:=Q2 q7;have q : w64 (((c ++ [s]).length : Int) - 1) = (c.length : Int):=by rw [Q9 (by simp;omega)];simp
  have f : idx (c ++ [s]) (c.length : Int) = some s:=by rw [Qu qb];simp
  unfold Zz qeg;simp only [Q2 hk,Q1];have r : q3z [] ({X:=p.X,Y:=p.Y} : qa) (h : Int) 1 = some ([p,{X:=p.X + d.X,Y:=p.Y + d.Y}],0):=z;simp only [r,qn,e0,qx,l,x,j,hg,g,Q1,beq_self_eq_true,q,f,Int.toNat_natCast];have m : ∀ u : qu,(c ++ [s]).set c.length u = c ++ [u]:=by intro u;simp
  simp only [m];rw [Q9 q7];rfl
end Go.Sh
namespace Go.Sh
open Go Go.Am
abbrev pq (x y : Int) : qa:={X:=x,Y:=y}
abbrev sg (a b c d : Int) : qu:={A:=pq a b,B:=pq c d}
abbrev ed (a b : Int) : qj:={A:=a,B:=b}
def n4 : Qh:={Nodes:=[pq 0 0,pq 2 0,pq 2 3,pq 4 0],Edges:=[ed 0 1,ed 1 2,ed 1 3]}
def n5 : Qh:={Nodes:=[pq 0 0,pq 2 (-1),pq 2 0,pq 2 3,pq 4 0],Edges:=[ed 0 2,ed 1 2,ed 2 3,ed 2 4]}
def n6 : Qh:={Nodes:=[pq 0 0,pq 2 0,pq 2 2,pq 4 0],Edges:=[ed 0 1,ed 1 2,ed 1 3]}
def n2 : Qh:={Nodes:=[pq 0 0,pq 4 0],Edges:=[ed 0 1]}
theorem net4 : netB [sg 0 0 4 0,sg 2 0 2 3] n4 = true:=by decide +kernel
theorem net5 : netB [sg 0 0 4 0,sg 2 3 2 0,sg 2 (-1) 2 0] n5 = true:=by decide +kernel
theorem net6 : netB [sg 0 0 4 0,sg 2 2 2 0] n6 = true:=by decide +kernel
theorem net2 : netB [sg 0 0 2 0,sg 2 0 4 0] n2 = true:=by decide +kernel
theorem qlx {l : List qu} {n : Qh} (h : netB l n = true) : q5j n l = some true:=by
  obtain ⟨_,_,b,hs,e⟩:=q8k h;obtain ⟨c1,_,_,_⟩:=qeb hs.fit hs;unfold q5j;have a:=qhh n n (by have:=hs.fit.1.1;omega) (by have:=hs.fit.1.2;omega);simp only [e,qn,a,decide_true,c1,beq_self_eq_true,Q1]
open Classical in
theorem qjp (l : List qu) (p : qa) : degN l p = b2z (rowB l p.Y p.X) + b2z (colB l p.X p.Y) + b2z (rowB l p.Y (p.X - 1)) + b2z (colB l p.X (p.Y - 1)):=by
  have e : ∀ {b : Bool} {P : Prop},(b = true↔P)→decide P = b:=by
    intro b P h;cases b
    · exact Q4 (fun hp=>by have:=h.2 hp;cases this)
    · exact Q2 (h.1 rfl)
  unfold degN;rw [e q9e,e q7r,e q9e,e q7r]
theorem qjq {l : List qu} {n : Qh} (h : netB l n = true) {i : Nat} (hi : i < n.Nodes.length) : q1u n (i : Int) = some (degN l n.Nodes[i],0):=by
  obtain ⟨c,f,a,hs,e⟩:=q8k h;have hb:=qiv (show l.length≤400 by omega) c;rw [(qjs hs.fit hs hi).1];have d : rowP (Zd n) = rowP l:=by funext y x;exact propext (qk0 hb a y x)
  have b : colP (Zd n) = colP l:=by funext y x;exact propext (qjz hb a y x)
  unfold degN;rw [d,b]
def w1 : Yw:={At:=pq 0 0,Head:=0,Steps:=4}
def w2 : Yw:={At:=pq 2 2,Head:=3,Steps:=9}
def V4 : List (qa × Bool):=[(pq 0 0,true),(pq 1 0,true),(pq 2 0,true),(pq 3 0,true),(pq 4 0,true)]
theorem pb {x y : Int} (h : -1000≤x∧x≤1000∧-1000≤y∧y≤1000) : PtB {X:=x,Y:=y}:=by unfold PtB;simp only;omega
theorem q13y : q4z [] w1 [] [] = some (0,V4,[sg 0 0 4 0]):=by
  have s0 : Zz w1 [] (0,0,[],[],0,0) = some (.inl (0,1,[(pq 0 0,true),(pq 1 0,true)],[sg 0 0 1 0],1,0)):=(qpq w1 (h:=0) (d:=pq 1 0) q7 rfl qy (pq 0 0) (pb qy) (pb qy) [] [] qb).trans rfl;have s1 : Zz w1 [] (0,1,[(pq 0 0,true),(pq 1 0,true)],[sg 0 0 1 0],1,0) = some (.inl (0,2,[(pq 0 0,true),(pq 1 0,true),(pq 2 0,true)],[sg 0 0 2 0],2,0)):=(qen w1 (h:=0) (d:=pq 1 0) q7 rfl (k:=1) q7 qy q7 (pq 1 0) (pb qy) (pb qy) [(pq 0 0,true),(pq 1 0,true)] [] (sg 0 0 1 0) qb).trans rfl;have c : Zz w1 [] (0,2,[(pq 0 0,true),(pq 1 0,true),(pq 2 0,true)],[sg 0 0 2 0],2,0) = some (.inl (0,3,[(pq 0 0,true),(pq 1 0,true),(pq 2 0,true),(pq 3 0,true)],[sg 0 0 3 0],3,0)):=(qen w1 (h:=0) (d:=pq 1 0) q7 rfl (k:=2) q7 qy q7 (pq 2 0) (pb qy) (pb qy) [(pq 0 0,true),(pq 1 0,true),(pq 2 0,true)] [] (sg 0 0 2 0) qb).trans rfl;have a : Zz w1 [] (0,3,[(pq 0 0,true),(pq 1 0,true),(pq 2 0,true),(pq 3 0,true)],[sg 0 0 3 0],3,0) = some (.inl (0,4,V4,[sg 0 0 4 0],4,0)):=(qen w1 (h:=0) (d:=pq 1 0) q7 rfl (k:=3) q7 qy q7 (pq 3 0) (pb qy) (pb qy) [(pq 0 0,true),(pq 1 0,true),(pq 2 0,true),(pq 3 0,true)] [] (sg 0 0 3 0) qb).trans rfl;have b : Zz w1 [] (0,4,V4,[sg 0 0 4 0],4,0) = some (.inr (.inl (V4,[sg 0 0 4 0]))):=rfl;unfold q4z;show (loop (Zz w1 []) (0,0,[],[],0,0)).bind _ = _;rw [Kf s0,Kf s1,Kf c,Kf a,Kh b];rfl
theorem q13z : ∃ V,q4z [] w2 [sg 0 0 4 0] V4 = some (0,V,[sg 0 0 4 0,sg 2 2 2 0]):=by
  have s0 : Zz w2 [] (3,0,V4,[sg 0 0 4 0],2,2) = some (.inl (3,1,V4 ++ [(pq 2 2,true),(pq 2 1,true)],[sg 0 0 4 0,sg 2 2 2 1],2,1)):=(qpq w2 (h:=3) (d:=pq 0 (-1)) q7 rfl qy (pq 2 2) (pb qy) (pb qy) V4 [sg 0 0 4 0] qb).trans rfl;have s1 : Zz w2 [] (3,1,V4 ++ [(pq 2 2,true),(pq 2 1,true)],[sg 0 0 4 0,sg 2 2 2 1],2,1) = some (.inr (.inl (V4 ++ [(pq 2 2,true),(pq 2 1,true)],[sg 0 0 4 0,sg 2 2 2 0]))):=(qen w2 (h:=3) (d:=pq 0 (-1)) q7 rfl (k:=1) q7 qy q7 (pq 2 1) (pb qy) (pb qy) (V4 ++ [(pq 2 2,true),(pq 2 1,true)]) [sg 0 0 4 0] (sg 2 2 2 1) qb).trans rfl;refine ⟨V4 ++ [(pq 2 2,true),(pq 2 1,true)],?_⟩;unfold q4z;show (loop (Zz w2 []) (3,0,V4,[sg 0 0 4 0],2,2)).bind _ = _;rw [Kf s0,Kh s1];rfl
theorem qu4 : qby [] [w1,w2] = some (n6,0):=by
  obtain ⟨V,j⟩:=q13z;have c : q7b [w1,w2] 0 = some (.inl 1):=rfl;have f : q7b [w1,w2] 1 = some (.inl 2):=rfl;have g : q7b [w1,w2] 2 = some (.inr (.inl ())):=rfl;have e0 : ((0 : Int) != 0) = false:=rfl
  have d : q3g [w1,w2] [] (0,[],[]) = some (.inl (1,[sg 0 0 4 0],V4)):=by
    unfold q3g;have b : decide ((0 : Int) < (([w1,w2] : List Yw).length : Int)) = true:=rfl;have a : idx [w1,w2] 0 = some w1:=rfl;simp only [b,Q1,a,qn,q13y,e0,qx];rfl
  have b1 : q3g [w1,w2] [] (1,[sg 0 0 4 0],V4) = some (.inl (2,[sg 0 0 4 0,sg 2 2 2 0],V)):=by
    unfold q3g;have b : decide ((1 : Int) < (([w1,w2] : List Yw).length : Int)) = true:=rfl;have a : idx [w1,w2] 1 = some w2:=rfl;simp only [b,Q1,a,qn,j,e0,qx];rfl
  have b2 : q3g [w1,w2] [] (2,[sg 0 0 4 0,sg 2 2 2 0],V) = some (.inr (.inl [sg 0 0 4 0,sg 2 2 2 0])):=rfl;unfold qby;have h : decide ((([w1,w2] : List Yw).length : Int) > 30) = false:=rfl;rw [qke,qn,e0,qx,h,qx,Kf c,Kf f,Kh g];simp only [qn];rw [Kf d,Kf b1,Kh b2];simp only [qn];rw [(q8k net6).2.2.2.2];rfl
theorem qua : q91 n5.Nodes (pq 2 0) = some 2:=by
  have b : q60 n5.Nodes (pq 2 0) 0 = some (.inl 1):=rfl;have a : q60 n5.Nodes (pq 2 0) 1 = some (.inl 2):=rfl;have c : q60 n5.Nodes (pq 2 0) 2 = some (.inr (.inr 2)):=rfl;unfold q91;rw [Kf b,Kf a,Kh c];rfl
theorem len4 : q4u n4 = some (7,0):=by
  obtain ⟨_,_,f,hs,_⟩:=q8k net4;obtain ⟨a,c,e1,_,b,h⟩:=qln hs.fit;have d:=h _ hs;obtain ⟨c1,_,_,_⟩:=qeb hs.fit hs;rw [b] at c1;cases c1;have : Ya (Zd n4) = 7:=by rfl
  rw [e1,d,this]
theorem qim : q5i = some true:=by
  have d : q1u n4 1 = some (3,0):=by
    have:=qjq net4 (i:=1) qy;rw [qjp] at this;exact this
  have k : q1u n5 2 = some (4,0):=by
    have:=qjq net5 (i:=2) qy;rw [qjp] at this;exact this
  have l:=(q8k net5).2.2.2.2;have g:=qlx net4;have c:=qlx net2;have j:=qua;have b:=len4;have f:=qu4;have a:=qhh n6 n6 qy qy;unfold n4 at d g b;unfold w1 w2 at f;unfold n2 at c;unfold q5i;simp only [Y8,q1l,qn,d,b,l,j,k,f,g,c,beq_self_eq_true,Q1]
  have h : q3b n6 {Nodes:=[{X:=0,Y:=0},{X:=2,Y:=0},{X:=2,Y:=2},{X:=4,Y:=0}],Edges:=[{A:=0,B:=1},{A:=1,B:=2},{A:=1,B:=3}]} = some true:=by
    have:=a;rw [Q2 rfl] at this;exact this
  rw [h];rfl
end Go.Sh
namespace Go.Sh
open Go Go.Am
theorem quu {α : Type} {l : List α} (h : l.length≤maxLen) : Len64 l:=by
  have : maxLen≤9223372036854775807:=by decide
  unfold Len64;omega
end Go.Sh
namespace Go.Sh
open Go Go.Am
open Classical
def q44 (s : qu) (x y : Int) : Prop:=(x = s.A.X∧y = s.A.Y)∨(x = s.B.X∧y = s.B.Y)
structure Lap (s t : qu) (x0 x1 y0 y1 : Int) : Prop where
  x0 : x0 = max (min s.A.X s.B.X) (min t.A.X t.B.X)
  x1 : x1 = min (max s.A.X s.B.X) (max t.A.X t.B.X)
  y0 : y0 = max (min s.A.Y s.B.Y) (min t.A.Y t.B.Y)
  y1 : y1 = min (max s.A.Y s.B.Y) (max t.A.Y t.B.Y)
def Jr (s t : qu) : Prop:=∀ x0 x1 y0 y1,Lap s t x0 x1 y0 y1→x0≤x1→y0≤y1→x0 = x1∧y0 = y1∧q44 s x0 y0∧q44 t x0 y0
theorem qgc {s t : qu} (h : Jr s t) : Jr t s:=by
  intro x0 x1 y0 y1 ⟨l,j,m,k⟩ g f;obtain ⟨a,b,c,d⟩:=h x0 x1 y0 y1 ⟨q7,q7,q7,q7⟩ g f;exact ⟨a,b,d,c⟩
section
variable {F G : Int→Int→Prop} {n : Qh}
theorem noX (a : Y4 F G n.Nodes) {i k : Nat} (h : Yj n.Nodes i k) (hi : i < n.Nodes.length) {y : Int} (j : n.Nodes[i].Y < y) (f : y < (n.Nodes[k]'h.hk).Y) : ¬ Ki F G n.Nodes[i].X y:=by
  intro d;have e:=h.eq hi h.hk;obtain ⟨q,b,c⟩:=List.mem_iff_getElem.1 ((a.mem {X:=n.Nodes[i].X,Y:=y}).2 d);have ex : n.Nodes[q].X = n.Nodes[i].X:=by rw [c]
  have g : n.Nodes[q].Y = y:=by rw [c]
  exact h.no q hi b (Zj a.srt hi b (by unfold ltP;omega)) (Zj a.srt b h.hk (by unfold ltP;omega)) ex
theorem noY (a : Y4 F G n.Nodes) {i k : Nat} (h : Yk n.Nodes i k) (hi : i < n.Nodes.length) {x : Int} (j : n.Nodes[i].X < x) (g : x < (n.Nodes[k]'h.hk).X) : ¬ Ki F G x n.Nodes[i].Y:=by
  intro f;have e:=h.eq hi h.hk;obtain ⟨q,b,c⟩:=List.mem_iff_getElem.1 ((a.mem {X:=x,Y:=n.Nodes[i].Y}).2 f);have ex : n.Nodes[q].X = x:=by rw [c]
  have d : n.Nodes[q].Y = n.Nodes[i].Y:=by rw [c]
  exact h.no q hi b (Zj a.srt hi b (by unfold ltP;omega)) (Zj a.srt b h.hk (by unfold ltP;omega)) d
theorem q8l (a : Y4 F G n.Nodes) {i : Nat} (hi : i < n.Nodes.length) : Ki F G n.Nodes[i].X n.Nodes[i].Y:=(a.mem _).1 (Kb hi)
theorem qqb {p b q c : qa} (e : b.X = p.X) (a : ltP p b) (n : c.X = q.X) (g : ltP q c) (m : p.X = q.X→b.Y≤q.Y) : Jr {A:=p,B:=b} {A:=q,B:=c}:=by
  unfold ltP at a g;intro x0 x1 y0 y1 ⟨d,h,j,f⟩ l k;simp only at d h j f;unfold q44;simp only;omega
theorem qqd {p b q c : qa} (e : b.Y = p.Y) (a : ltP p b) (n : c.Y = q.Y) (g : ltP q c) (m : p.Y = q.Y→b.X≤q.X) : Jr {A:=p,B:=b} {A:=q,B:=c}:=by
  unfold ltP at a g;intro x0 x1 y0 y1 ⟨d,h,j,f⟩ l k;simp only at d h j f;unfold q44;simp only;omega
theorem qqc {p b q c : qa} (e : b.X = p.X) (a : ltP p b) (t : c.Y = q.Y) (k : ltP q c)
    (f : p.Y < q.Y→q.Y < b.Y→q.X≤p.X→p.X≤c.X→False) (d : q.X < p.X→p.X < c.X→p.Y≤q.Y→q.Y≤b.Y→False) : Jr {A:=p,B:=b} {A:=q,B:=c}:=by
  unfold ltP at a k;intro x0 x1 y0 y1 ⟨h,l,m,j⟩ s n;simp only at h l m j;unfold q44;simp only;have c1 : q.X≤p.X∧p.X≤c.X:=by omega
  have c2 : p.Y≤q.Y∧q.Y≤b.Y:=by omega
  have r : q.Y = p.Y∨q.Y = b.Y:=by
    by_cases g : p.Y < q.Y∧q.Y < b.Y
    · exact (f g.1 g.2 c1.1 c1.2).elim
    · omega
  have o : p.X = q.X∨p.X = c.X:=by
    by_cases g : q.X < p.X∧p.X < c.X
    · exact (d g.1 g.2 c2.1 c2.2).elim
    · omega
  clear f d
  omega
theorem qm1 (f : Y4 F G n.Nodes) {i k j m : Nat} (h : Yj n.Nodes i k) (a : Yj n.Nodes j m) (d : i < j) (hi : i < n.Nodes.length) (c : j < n.Nodes.length) : Jr {A:=n.Nodes[i],B:=n.Nodes[k]'h.hk} {A:=n.Nodes[j],B:=n.Nodes[m]'a.hk}:=by
  refine qqb (h.eq hi h.hk) (Zi f.srt hi h.hk h.lt) (a.eq c a.hk) (Zi f.srt c a.hk a.lt) fun ex=>?_;rcases Nat.lt_trichotomy j k with b | b | b
  · exact absurd ex.symm (h.no j hi c d b)
  · subst b;exact Int.le_refl _
  · have g:=Zi f.srt h.hk c b;have:=h.eq hi h.hk;unfold ltP at g;omega
theorem qm3 (f : Y4 F G n.Nodes) {i k j m : Nat} (h : Yk n.Nodes i k) (a : Yk n.Nodes j m) (d : i < j) (hi : i < n.Nodes.length) (c : j < n.Nodes.length) : Jr {A:=n.Nodes[i],B:=n.Nodes[k]'h.hk} {A:=n.Nodes[j],B:=n.Nodes[m]'a.hk}:=by
  refine qqd (h.eq hi h.hk) (Zi f.srt hi h.hk h.lt) (a.eq c a.hk) (Zi f.srt c a.hk a.lt) fun ex=>?_;rcases Nat.lt_trichotomy j k with b | b | b
  · exact absurd ex.symm (h.no j hi c d b)
  · subst b;exact Int.le_refl _
  · have g:=Zi f.srt h.hk c b;have:=h.eq hi h.hk;unfold ltP at g;omega
theorem qmq {x y : Int} (e : F y x) (w : F y (x - 1)) (a : G x y) (b : G x (y - 1)) : Ki F G x y:=by
  unfold Ki;rw [Q2 e,Q2 w,Q2 a,Q2 b];rfl
theorem qm2 (a : Y4 F G n.Nodes) {i k j m : Nat} (h : Yj n.Nodes i k) (b : Yk n.Nodes j m) (hi : i < n.Nodes.length) (f : j < n.Nodes.length) (g : G n.Nodes[i].X n.Nodes[i].Y) (l : F n.Nodes[j].Y n.Nodes[j].X) : Jr {A:=n.Nodes[i],B:=n.Nodes[k]'h.hk} {A:=n.Nodes[j],B:=n.Nodes[m]'b.hk}:=by
  have t:=q8l a hi;have n2:=q8l a h.hk;have s:=q8l a f;have n4:=q8l a b.hk;rw [h.eq hi h.hk] at n2;rw [b.eq f b.hk] at n4;refine qqc (h.eq hi h.hk) (Zi a.srt hi h.hk h.lt) (b.eq f b.hk) (Zi a.srt f b.hk b.lt) (fun o p u r=>?_) (fun o p u r=>?_)
  · have c:=noX a h hi o p;rcases (show n.Nodes[i].X = n.Nodes[j].X∨n.Nodes[i].X = (n.Nodes[m]'b.hk).X∨(n.Nodes[j].X < n.Nodes[i].X∧n.Nodes[i].X < (n.Nodes[m]'b.hk).X) by omega) with d | d | ⟨d,q⟩
    · rw [d] at c;exact c s
    · rw [d] at c;exact c n4
    · exact c (qmq (q9f a b f l q7 q7) (q9f a b f l q7 q7) (q7t a h hi g q7 q7) (q7t a h hi g q7 q7))
  · have c:=noY a b f o p;rcases (show n.Nodes[j].Y = n.Nodes[i].Y∨n.Nodes[j].Y = (n.Nodes[k]'h.hk).Y∨(n.Nodes[i].Y < n.Nodes[j].Y∧n.Nodes[j].Y < (n.Nodes[k]'h.hk).Y) by omega) with d | d | ⟨d,q⟩
    · rw [d] at c;exact c t
    · rw [d] at c;exact c n2
    · exact c (qmq (q9f a b f l q7 q7) (q9f a b f l q7 q7) (q7t a h hi g q7 q7) (q7t a h hi g q7 q7))
theorem qt7 (h : J2 F G n) {e f : qj} (t : e∈n.Edges) (r : f∈n.Edges) (g : e≠f) : Jr (Zq n e) (Zq n f):=by
  obtain ⟨i,k,rfl,hi,q⟩:=(h.edges.mem e).1 t;obtain ⟨j,m,rfl,d,l⟩:=(h.edges.mem f).1 r;have hk : k < n.Nodes.length:=by rcases q with ⟨h,_⟩ | ⟨h,_⟩ <;> exact h.hk
  have s : m < n.Nodes.length:=by rcases l with ⟨h,_⟩ | ⟨h,_⟩ <;> exact h.hk
  rw [Uf hi hk,Uf d s];rcases q with ⟨b,p⟩ | ⟨b,p⟩ <;> rcases l with ⟨c,o⟩ | ⟨c,o⟩
  · rcases Nat.lt_trichotomy i j with a | a | a
    · exact qm1 h.nodes b c a hi d
    · subst a;exact absurd (by rw [b.fun' c]) g
    · exact qgc (qm1 h.nodes c b a d hi)
  · exact qm2 h.nodes b c hi d p o
  · exact qgc (qm2 h.nodes c b d hi o p)
  · rcases Nat.lt_trichotomy i j with a | a | a
    · exact qm3 h.nodes b c a hi d
    · subst a;exact absurd (by rw [b.fun' c]) g
    · exact qgc (qm3 h.nodes c b a d hi)
end
def cntE (E : List qj) (i : Nat) : Nat:=(E.filter fun e=>decide (e.A = (i : Int)∨e.B = (i : Int))).length
def sumC (E : List qj) : Nat→Nat
  | 0=>0
  | k + 1=>sumC E k + cntE E k
theorem qph : ∀ k,sumC [] k = 0
  | 0=>rfl
  | k + 1=>by rw [sumC,qph k];rfl
theorem qpg (e : qj) (E : List qj) {a b : Nat} (c : e.A = a) (hb : e.B = b) (d : a≠b) : ∀ k,sumC (e::E) k = sumC E k + (if a < k then 1 else 0) + (if b < k then 1 else 0)
  | 0=>by simp [sumC]
  | k + 1=>by
    rw [sumC,sumC,qpg e E c hb d k]
    have f : cntE (e::E) k = cntE E k + (if a = k∨b = k then 1 else 0):=by
      unfold cntE;rw [List.filter_cons];by_cases h : a = k∨b = k
      · rw [Q0 (by rw [decide_eq_true_eq,c,hb];omega),Q0 h];rfl
      · rw [Q3 (by rw [decide_eq_true_eq,c,hb];omega),Q3 h];rfl
    rw [f]
    split <;> split <;> split <;> split <;> split <;> omega
theorem qpf {N : Nat} : ∀ {E : List qj},(∀ e∈E,∃ a b : Nat,e.A = a∧e.B = b∧a≠b∧a < N∧b < N)→sumC E N = 2 * E.length
  | [],_=>by rw [qph];rfl
  | e::E,h=>by
    obtain ⟨a,b,j,d,l,g,k⟩:=h e qb
    rw [qpg e E j d l,qpf (E:=E) fun f c=>h f (by simp [c]),Q0 g,Q0 k,List.length_cons]
    omega
theorem qry {n : Qh} {l : List qu} (hs : J3 n l) {i : Nat} (hi : i < n.Nodes.length) : degN l n.Nodes[i] = (cntE n.Edges i : Nat)∧1≤degN l n.Nodes[i]∧degN l n.Nodes[i]≤4:=by
  obtain ⟨b1,b⟩:=qhe hs.val hs.len400;have c:=qjr hs.net.nodes hs.net.edges b1 b hi;have a:=q8l hs.net.nodes hi;unfold Ki at a;unfold degN cntE;rw [c,← b2,← b2,← b2,← b2];generalize decide (rowP l n.Nodes[i].Y n.Nodes[i].X) = b1 at a ⊢;generalize decide (colP l n.Nodes[i].X n.Nodes[i].Y) = b2 at a ⊢;generalize decide (rowP l n.Nodes[i].Y (n.Nodes[i].X - 1)) = b3 at a ⊢;generalize decide (colP l n.Nodes[i].X (n.Nodes[i].Y - 1)) = b4 at a ⊢;refine ⟨q7,?_⟩;revert b1 b2 b3 b4;decide
theorem qvk {s t : qu} (h : Jr s t) : q89 s t = some true:=by
  unfold q89;by_cases g : (max (min s.A.X s.B.X) (min t.A.X t.B.X)) > (min (max s.A.X s.B.X) (max t.A.X t.B.X))
  · rw [Q2 g];rfl
  by_cases j : (max (min s.A.Y s.B.Y) (min t.A.Y t.B.Y)) > (min (max s.A.Y s.B.Y) (max t.A.Y t.B.Y))
  · rw [Q4 g,Q2 j];rfl
  rw [Q4 g,Q4 j];obtain ⟨a,b,c,d⟩:=h _ _ _ _ ⟨rfl,rfl,rfl,rfl⟩ q7 q7
  have q : ∀ u : qu,q44 u (max (min s.A.X s.B.X) (min t.A.X t.B.X)) (max (min s.A.Y s.B.Y) (min t.A.Y t.B.Y))→(cond (((max (min s.A.X s.B.X) (min t.A.X t.B.X)) == u.A.X) && (((max (min s.A.Y s.B.Y) (min t.A.Y t.B.Y)) == u.A.Y) && true)) (some true) (some (((max (min s.A.X s.B.X) (min t.A.X t.B.X)) == u.B.X) && (((max (min s.A.Y s.B.Y) (min t.A.Y t.B.Y)) == u.B.Y) && true)))) = some true:=by
    intro u f;unfold q44 at f;generalize max (min s.A.X s.B.X) (min t.A.X t.B.X) = x at f ⊢;generalize max (min s.A.Y s.B.Y) (min t.A.Y t.B.Y) = y at f ⊢;rcases f with ⟨rfl,rfl⟩ | ⟨rfl,rfl⟩
    · simp
    · cases ((u.B.X == u.A.X) && ((u.B.Y == u.A.Y) && true)) <;> simp
  simp only [qx,qn,Y8];rw [q s c,q t d,beqI,Q2 a,beqI,Q2 b];rfl
theorem qva {s : qu} (h : SegV s) : q4f s = some (q2g s):=by
  obtain ⟨⟨b,c,f,a⟩,⟨b1,b2,g,d⟩,_⟩:=h;unfold q4f q2g;rw [Q9 (x:=s.A.X - s.B.X) q7,Q9 (x:=s.B.X - s.A.X) q7,Q9 (x:=s.A.Y - s.B.Y) q7,Q9 (x:=s.B.Y - s.A.Y) q7,Q9 q7];congr 1;omega
theorem qz4 {l : List qu} {k : Nat} (hk : k < l.length) (m : l.length≤1000) (x c z : Int) (h : ∀ j (a : j < k),Jr l[k] (l[j]'(q7))) : loop (q47 (x,(k : Int)) (l,c) z) 0 = some (.inl (w64 (x + z))):=by
  have:=Kp (f:=q47 (x,(k : Int)) (l,c) z) (σ:=Unit) (fun j _=>(j : Int)) k (fun _ _=>True) (fun o=>o = .inl (w64 (x + z))) ?_ ?_ (k0:=0) (c0:=()) q7 trivial
  · obtain ⟨b,g,rfl⟩:=this;exact g
  · rintro j _ a _;refine .inl ⟨(),?_,trivial⟩;have d : j < l.length:=by omega
    simp only [q47,dlt' a,Q1,Qu hk,Qu d,qn,qvk (h j a),Bool.not_true,qx];rw [Q9 q7];rfl
  · rintro _ _;exact ⟨_,by simp only [q47,dnl',qx],rfl⟩
theorem qz3 {l : List qu} (d : ∀ s∈l,SegV s) (n : l.length≤400) (c : Int) (h : ∀ k (hk : k < l.length) j (p : j < k),Jr l[k] (l[j]'(q7))) : loop (q46 (l,c)) (0,0) = some (.inl (Ya l)):=by
  have:=Kp (f:=q46 (l,c)) (σ:=Int) (fun k a=>(a,(k : Int))) l.length (fun k a=>a = Ya (l.take k)) (fun o=>o = .inl (Ya l)) ?_ ?_ (k0:=0) (c0:=0) q7 (by simp [Ya])
  · obtain ⟨b,m,rfl⟩:=this;exact m
  · rintro k a hk rfl;refine .inl ⟨Ya (l.take (k + 1)),?_,rfl⟩
    have e : Ya (l.take (k + 1)) = Ya (l.take k) + q2g l[k]:=by
      rw [List.take_succ_eq_append_getElem hk,qll];simp [Ya]
    have hb:=qg5 (l:=l.take k) fun s hs=>d s (List.mem_of_mem_take hs);have g:=qhk (d _ (Kb hk));have : (l.take k).length = k:=by simp;omega
    simp only [q46,dlt' hk,Q1,Qu hk,qn,qva (d _ (Kb hk)),qz4 hk (show l.length≤1000 by omega) _ _ _ (h k hk)];rw [Q9 q7,Q9 q7,e];rfl
  · rintro a rfl;exact ⟨_,by simp only [q46,dnl',qx];rfl,by rw [List.take_length]⟩
theorem qz5 {n : Qh} {l : List qu} (hs : J3 n l) (c : Int) : loop (q48 (n,c)) (0,0) = some (.inl ((sumC n.Edges n.Nodes.length : Nat) : Int)):=by
  have d:=hs.fit;have g:=hs.net.nlen;have:=Kp (f:=q48 (n,c)) (σ:=Int) (fun k a=>(a,(k : Int))) n.Nodes.length (fun k a=>a = ((sumC n.Edges k : Nat) : Int)∧a≤4 * k) (fun o=>o = .inl ((sumC n.Edges n.Nodes.length : Nat) : Int)) ?_ ?_ (k0:=0) (c0:=0) q7 ⟨rfl,q7⟩
  · obtain ⟨b,h,rfl⟩:=this;exact h
  · rintro k a hk ⟨rfl,q⟩;obtain ⟨j,m,p⟩:=qry hs hk;refine .inl ⟨((sumC n.Edges (k + 1) : Nat) : Int),?_,rfl,by rw [sumC];omega⟩;have e0 : ((0 : Int) != 0) = false:=rfl;simp only [q48,dlt' hk,Q1,(qjs d hs hk).1,qn,e0,qx];rw [Q4 (show ¬ degN l n.Nodes[k] < 1 by omega),qx,qn,Q4 (show ¬ degN l n.Nodes[k] > 4 by omega),qx,Q9 q7,Q9 q7,j,sumC];rfl
  · rintro a ⟨rfl,_⟩;exact ⟨_,by simp only [q48,dnl',qx],rfl⟩
theorem q14m (l : List qu) (h : l.length≤maxLen) : qd9 l = some true:=by
  unfold qd9;rw [qvf l (quu h),qn];by_cases g : (∀ s∈l,SegV s)∧l.length≤24
  · rw [Q2 g,Bool.not_true,qx];obtain ⟨n,e1,_,r,hs,_⟩:=qlv g.2 g.1;obtain ⟨c1,c2,_,_⟩:=qeb hs.fit hs;obtain ⟨a,c,g1,_,g3,u⟩:=qln hs.fit;have y:=u _ hs;rw [g3] at c1;cases c1;subst y;have e0 : ((0 : Int) != 0) = false:=rfl;have q : n.Edges.Nodup:=r.edges.srt.imp (by rintro a b h rfl;exact qg8 a a h h)
    have d : ∀ k (hk : k < (Zd n).length) j (w : j < k),Jr (Zd n)[k] ((Zd n)[j]'(q7)):=by
      intro k hk j w;have m : k < n.Edges.length:=by simpa [Zd] using hk
      have p : j < n.Edges.length:=by omega
      have ek : (Zd n)[k] = Zq n n.Edges[k]:=by simp [Zd]
      have z : (Zd n)[j]'(q7) = Zq n n.Edges[j]:=by simp [Zd]
      rw [ek,z];refine qt7 r (Kb m) (Kb p) fun e=>?_;have:=(List.getElem_inj q).1 e;omega
    have o : sumC n.Edges n.Nodes.length = 2 * n.Edges.length:=by
      refine qpf fun e x=>?_;obtain ⟨i,k,rfl,hi,hh⟩:=(r.edges.mem e).1 x;rcases hh with ⟨f,_⟩ | ⟨f,_⟩
      · exact ⟨i,k,rfl,rfl,by have:=f.lt;omega,hi,f.hk⟩
      · exact ⟨i,k,rfl,rfl,by have:=f.lt;omega,hi,f.hk⟩
    have p1:=qz3 hs.val hs.len400 0 d;have p3:=qz5 hs 0;have t:=hs.fit.1.2;have v : w64 (2 * (n.Edges.length : Int)) = ((2 * n.Edges.length : Nat) : Int):=by rw [Q9 q7];omega
    simp only [e1,qn,c2,g1,e0,qx,p1,p3,o,v,beq_self_eq_true,Q1,qim]
  · rw [Q4 g,Bool.not_false,Q1,qim];rfl
end Go.Sh
