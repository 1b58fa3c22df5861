/- St20 St21 St22 St23 St24 St25 St26 St27 -/
import Derived.Test.YtgkialgkmjnfbaaGreatK14
namespace Go.Sh
open Go Go.Am
open Classical
theorem q82 {α β : Type} {f : α→List β} {c : Nat} : ∀ {l : List α},(∀ x∈l,(f x).length = c)→(l.flatMap f).length = l.length * c
  | [],_=>by simp
  | a::l,h=>by
    rw [List.flatMap_cons,List.length_append,h a qd,q82 (l:=l) fun x b=>h x (by simp [b]),List.length_cons,Nat.succ_mul]
    omega
theorem qk7 {α : Type} (p : α→Bool) : ∀ l : List α,(l.filter p).length + (l.filter fun x=>!p x).length = l.length
  | []=>rfl
  | a::l=>by
    have:=qk7 p l
    cases h : p a <;> simp [h] <;> omega
noncomputable def q3u (l : List qt) : List qa:=l.flatMap (fun s=>[s.A,s.B]) ++ (l.filter fun s=>decide (s.A.Y = s.B.Y)).flatMap fun h=>(l.filter fun s=>!decide (s.A.Y = s.B.Y)).map fun v=>({X:=v.A.X,Y:=h.A.Y} : qa)
theorem qyk : ∀ h,h < 25→∀ v,v < 25→h + v≤24→h * v≤144:=by decide
theorem qit {l : List qt} (c : l.length≤24) : (q3u l).length≤192:=by
  have e1 : (l.flatMap fun s=>[s.A,s.B]).length = l.length * 2:=q82 fun _ _=>rfl;have a : ((l.filter fun s=>decide (s.A.Y = s.B.Y)).flatMap fun h=>(l.filter fun s=>!decide (s.A.Y = s.B.Y)).map fun v=>({X:=v.A.X,Y:=h.A.Y} : qa)).length = (l.filter fun s=>decide (s.A.Y = s.B.Y)).length * (l.filter fun s=>!decide (s.A.Y = s.B.Y)).length:=q82 fun _ _=>by simp
  have b:=qk7 (fun s : qt=>decide (s.A.Y = s.B.Y)) l;unfold q3u;rw [List.length_append,e1,a];have:=qyk _ (show (l.filter fun s : qt=>decide (s.A.Y = s.B.Y)).length < 25 by omega) _ (show (l.filter fun s : qt=>!decide (s.A.Y = s.B.Y)).length < 25 by omega) q7;omega
theorem q4g {l : List qt} {y x : Int} : rowP l y x↔∃ s∈l,s.A.Y = s.B.Y∧s.A.Y = y∧min s.A.X s.B.X≤x∧x < max s.A.X s.B.X:=by
  constructor
  · rintro ⟨⟨k,t⟩,hp,rfl,b,a⟩;obtain ⟨s,hs,c,rfl,rfl⟩:=q5l.1 hp;exact ⟨s,hs,c,rfl,b,a⟩
  · rintro ⟨s,hs,c,rfl,b,a⟩;exact ⟨(_,_),q5l.2 ⟨s,hs,c,rfl,rfl⟩,rfl,b,a⟩
theorem q3w {l : List qt} {x y : Int} : colP l x y↔∃ s∈l,s.A.Y≠s.B.Y∧s.A.X = x∧min s.A.Y s.B.Y≤y∧y < max s.A.Y s.B.Y:=by
  constructor
  · rintro ⟨⟨k,t⟩,hp,rfl,b,a⟩;obtain ⟨s,hs,c,rfl,rfl⟩:=q5k.1 hp;exact ⟨s,hs,c,rfl,b,a⟩
  · rintro ⟨s,hs,c,rfl,b,a⟩;exact ⟨(_,_),q5k.2 ⟨s,hs,c,rfl,rfl⟩,rfl,b,a⟩
theorem qlp {l : List qt} {p : qa} : p∈q3u l↔(∃ s∈l,p = s.A∨p = s.B)∨∃ h∈l,h.A.Y = h.B.Y∧∃ v∈l,v.A.Y≠v.B.Y∧p = {X:=v.A.X,Y:=h.A.Y}:=by
  simp only [q3u,List.mem_append,List.mem_flatMap,List.mem_cons,List.not_mem_nil,or_false,List.mem_filter,List.mem_map,decide_eq_true_eq,Bool.not_eq_true',decide_eq_false_iff_not];constructor
  · rintro (h | ⟨h,⟨c,a⟩,v,⟨d,b⟩,rfl⟩)
    · exact .inl h
    · exact .inr ⟨h,c,a,v,d,b,rfl⟩
  · rintro (h | ⟨h,c,a,v,d,b,rfl⟩)
    · exact .inl h
    · exact .inr ⟨h,⟨c,a⟩,v,⟨d,b⟩,rfl⟩
theorem qzn {l : List qt} (m : ∀ s∈l,SegV s) {c d : Int} (e : rowP l d c) (w : ¬ rowP l d (c - 1)) : ∃ s∈l,({X:=c,Y:=d} : qa) = s.A∨({X:=c,Y:=d} : qa) = s.B:=by
  obtain ⟨a,b,j,k,u,o⟩:=q4g.1 e;have h : ¬ (min a.A.X a.B.X≤c - 1∧c - 1 < max a.A.X a.B.X):=fun g=>w (q4g.2 ⟨a,b,j,k,g.1,g.2⟩);have p:=(m a b).or;refine ⟨a,b,?_⟩;rcases Int.le_total a.A.X a.B.X with f | f
  · left;obtain ⟨⟨q,t⟩,r⟩:=a;simp only [qa.mk.injEq] at *;omega
  · right;obtain ⟨v,⟨bx,n⟩⟩:=a;simp only [qa.mk.injEq] at *;omega
theorem qzm {l : List qt} (m : ∀ s∈l,SegV s) {c d : Int} (e : rowP l d (c - 1)) (w : ¬ rowP l d c) : ∃ s∈l,({X:=c,Y:=d} : qa) = s.A∨({X:=c,Y:=d} : qa) = s.B:=by
  obtain ⟨a,b,j,k,u,o⟩:=q4g.1 e;have h : ¬ (min a.A.X a.B.X≤c∧c < max a.A.X a.B.X):=fun g=>w (q4g.2 ⟨a,b,j,k,g.1,g.2⟩);have p:=(m a b).or;refine ⟨a,b,?_⟩;rcases Int.le_total a.A.X a.B.X with f | f
  · right;obtain ⟨v,⟨bx,n⟩⟩:=a;simp only [qa.mk.injEq] at *;omega
  · left;obtain ⟨⟨q,t⟩,r⟩:=a;simp only [qa.mk.injEq] at *;omega
theorem qja {l : List qt} (m : ∀ s∈l,SegV s) {d c : Int} (e : colP l d c) (w : ¬ colP l d (c - 1)) : ∃ s∈l,({X:=d,Y:=c} : qa) = s.A∨({X:=d,Y:=c} : qa) = s.B:=by
  obtain ⟨a,b,j,k,u,o⟩:=q3w.1 e;have h : ¬ (min a.A.Y a.B.Y≤c - 1∧c - 1 < max a.A.Y a.B.Y):=fun g=>w (q3w.2 ⟨a,b,j,k,g.1,g.2⟩);have p:=(m a b).or;refine ⟨a,b,?_⟩;rcases Int.le_total a.A.Y a.B.Y with f | f
  · left;obtain ⟨⟨q,t⟩,r⟩:=a;simp only [qa.mk.injEq] at *;omega
  · right;obtain ⟨v,⟨bx,n⟩⟩:=a;simp only [qa.mk.injEq] at *;omega
theorem qj9 {l : List qt} (m : ∀ s∈l,SegV s) {d c : Int} (e : colP l d (c - 1)) (w : ¬ colP l d c) : ∃ s∈l,({X:=d,Y:=c} : qa) = s.A∨({X:=d,Y:=c} : qa) = s.B:=by
  obtain ⟨a,b,j,k,u,o⟩:=q3w.1 e;have h : ¬ (min a.A.Y a.B.Y≤c∧c < max a.A.Y a.B.Y):=fun g=>w (q3w.2 ⟨a,b,j,k,g.1,g.2⟩);have p:=(m a b).or;refine ⟨a,b,?_⟩;rcases Int.le_total a.A.Y a.B.Y with f | f
  · right;obtain ⟨v,⟨bx,n⟩⟩:=a;simp only [qa.mk.injEq] at *;omega
  · left;obtain ⟨⟨q,t⟩,r⟩:=a;simp only [qa.mk.injEq] at *;omega
theorem qgi {l : List qt} (c : ∀ s∈l,SegV s) {p : qa} (h : Kv (rowP l) (colP l) p.X p.Y) : p∈q3u l:=by
  rw [qlp];obtain ⟨a,b⟩:=p;simp only at h;by_cases e : rowP l b a
  · by_cases w : rowP l b (a - 1)
    · by_cases n : colP l a b
      · by_cases s : colP l a (b - 1)
        · right;obtain ⟨j,f,m,g,u,r⟩:=q4g.1 e;obtain ⟨q,d,o,k,v,t⟩:=q3w.1 n;exact ⟨j,f,m,q,d,o,by rw [k,g]⟩
        · exact .inl (qja c n s)
      · by_cases s : colP l a (b - 1)
        · exact .inl (qj9 c s n)
        · exfalso;unfold Kv at h;rw [Q5 e,Q5 w,Q7 n,Q7 s] at h;exact absurd h qz
    · exact .inl (qzn c e w)
  · by_cases w : rowP l b (a - 1)
    · exact .inl (qzm c w e)
    · by_cases n : colP l a b
      · by_cases s : colP l a (b - 1)
        · exfalso;unfold Kv at h;rw [Q7 e,Q7 w,Q5 n,Q5 s] at h;exact absurd h qz
        · exact .inl (qja c n s)
      · by_cases s : colP l a (b - 1)
        · exact .inl (qj9 c s n)
        · exfalso;unfold Kv at h;rw [Q7 e,Q7 w,Q7 n,Q7 s] at h;exact absurd h qz
theorem qlj {l : List qt} (d : l.length≤24) (c : ∀ s∈l,SegV s) : ∃ n,Ux l = some (n,0)∧qdv l = some (n,0)∧Zz (rowP l) (colP l) n∧J5 n (J8 n)∧n.Nodes.length≤192:=by
  rcases quy (l:=l) q7 c with ⟨n,e1,j,h⟩ | ⟨_,_,b,f,m,g⟩
  · have k : n.Nodes.Nodup:=h.nodes.srt.imp (by rintro a b h rfl;exact q34 a a h h);have:=List.Nodup.length_le_of_subset k (l₂:=q3u l) fun p hp=>qgi c ((h.nodes.mem p).1 hp);have:=qit d;have:=h.elen;exact ⟨n,e1,j,h,q12b (qev q7 c) h q7,q7⟩
  · have:=List.Nodup.length_le_of_subset f (l₂:=q3u l) fun p hp=>qgi c (g p hp);have:=qit d;omega
theorem qij {l : List qt} (a : ∀ s∈l,SegV s) (p : qa) : Z7 l p = true↔rowP l p.Y p.X∨rowP l p.Y (p.X - 1)∨colP l p.X p.Y∨colP l p.X (p.Y - 1):=by
  unfold Z7;simp only [List.any_eq_true,decide_eq_true_eq,q4g,q3w];constructor
  · rintro ⟨s,hs,⟨b,f⟩,c,g⟩;rcases (a s hs).or with ⟨e1,d⟩ | ⟨e1,d⟩
    · by_cases h : p.Y < max s.A.Y s.B.Y
      · exact .inr (.inr (.inl ⟨s,hs,d,q7,c,h⟩))
      · exact .inr (.inr (.inr ⟨s,hs,d,q7,q7,q7⟩))
    · by_cases h : p.X < max s.A.X s.B.X
      · exact .inl ⟨s,hs,d,q7,b,h⟩
      · exact .inr (.inl ⟨s,hs,d,q7,q7,q7⟩)
  · rintro (⟨s,hs,b,f,c,g⟩ | ⟨s,hs,b,f,c,g⟩ | ⟨s,hs,b,f,c,g⟩ | ⟨s,hs,b,f,c,g⟩)
    · exact ⟨s,hs,by have:=(a s hs).or;unfold Jr;omega⟩
    · exact ⟨s,hs,by have:=(a s hs).or;unfold Jr;omega⟩
    · exact ⟨s,hs,by have:=(a s hs).or;unfold Jr;omega⟩
    · exact ⟨s,hs,by have:=(a s hs).or;unfold Jr;omega⟩
end Go.Sh
namespace Go.Sh
open Go Go.Am
open Classical
def Len64 {α : Type} (l : List α) : Prop:=(l.length : Int)≤9223372036854775807
theorem quv (l : List qt) (g : Len64 l) : q86 l = some (decide ((∀ s∈l,SegV s)∧l.length≤24)):=by
  unfold Len64 at g;have:=Kr (f:=q32 l) (σ:=Unit) (fun k _=>(k : Int)) l.length (fun k _=>∀ i (hi : i < l.length),i < k→SegV l[i]) (fun o=>o = if ∀ s∈l,SegV s then .inl () else .inr false) ?_ ?_ (k0:=0) (c0:=()) q7 (fun i hi h=>q7)
  · obtain ⟨o,e,d⟩:=this;have e : loop (q32 l) 0 = some o:=e;unfold q86;rw [e,d];by_cases h : ∀ s∈l,SegV s
    · rw [Q1 h];simp only [qn];congr 1;exact decide_eq_decide.2 ⟨fun a=>⟨h,q7⟩,fun a=>by have:=a.2;omega⟩
    · rw [Q4 h];simp only [qn];rw [Q7 (fun a=>h a.1)]
  · rintro k _ hk c;by_cases b : SegV l[k]
    · refine .inl ⟨(),?_,fun i hi j=>?_⟩
      · simp only [q32,dlt' hk,Q3,Qv hk,qn,qe1,Q5 b,Bool.not_true,Q0];rw [Qb q7];rfl
      · by_cases e : i = k
        · subst e;exact b
        · exact c i hi q7
    · refine .inr ⟨.inr false,?_,by rw [Q4 (fun h=>b (h _ (Kn hk)))]⟩;simp only [q32,dlt' hk,Q3,Qv hk,qn,qe1,Q7 b,Bool.not_false]
  · rintro _ c;refine ⟨.inl (),by simp only [q32,dnl',Q0],?_⟩;rw [Q1];intro s hs;obtain ⟨i,hi,rfl⟩:=List.mem_iff_getElem.1 hs;exact c i hi hi
theorem qt8 {F G : Int→Int→Prop} {n : Qh} (h : Zz F G n) (a : n.Edges.length≤400) : Fit n:=⟨⟨by have:=h.nlen;omega,q7⟩,.inl a⟩
theorem J5.fit {n : Qh} {l : List qt} (h : J5 n l) : Fit n:=qt8 h.net h.le
theorem qsl {l : List qt} {n : Qh} (b : l.length≤400) (a : ∀ s∈l,SegV s) (h : Zz (rowP l) (colP l) n) (hs : J5 n (J8 n)) (p : qa) : Z7 (J8 n) p = Z7 l p:=by
  have hb:=qev b a;have e:=qij hs.val p;have c:=qij a p;simp only [qfg hb h,qff hb h] at e;rw [← c] at e;cases f : Z7 (J8 n) p <;> cases d : Z7 l p <;> simp_all
theorem q112 (l : List qt) (p : qa) (d : l.length≤1000) : loop (q46 l p) (false,0) = some (Z7 l p):=by
  have:=Kr (f:=q46 l p) (σ:=Bool) (fun k c=>(c,(k : Int))) l.length (fun k c=>c = Z7 (l.take k) p) (fun o=>o = Z7 l p) ?_ ?_ (k0:=0) (c0:=false) q7 (by simp [Z7])
  · obtain ⟨b,a,rfl⟩:=this;exact a
  · rintro k c hk rfl;refine .inl ⟨Z7 (l.take (k + 1)) p,?_,rfl⟩
    have e : Z7 (l.take (k + 1)) p = (Z7 (l.take k) p || decide (Jr l[k] p)):=by
      unfold Z7;rw [List.take_succ_eq_append_getElem hk,List.any_append];simp
    rw [e];simp only [q46,dlt' hk,Q3,Qv hk,qn,qh2];rw [Qb q7];cases Z7 (l.take k) p <;> rfl
  · rintro c rfl;exact ⟨_,by simp only [q46,dnl',Q0];rfl,by rw [List.take_length]⟩
theorem q12w (d : q47 = some true) (l : List qt) (p : qa) (h : Len64 l) : q85 l p = some true:=by
  unfold q85;rw [quv l h,qn];by_cases a : (∀ s∈l,SegV s)∧l.length≤24
  · rw [Q5 a,Bool.not_true,Q0];obtain ⟨n,e1,_,j,hs,_⟩:=qlj a.2 a.1;obtain ⟨b,c,g,_,_,f⟩:=qfz hs.fit p;obtain ⟨rfl,rfl⟩:=f _ hs;rw [e1,qn,g,qn,q112 l p q7,qn,qsl q7 a.1 j hs,d];simp
  · rw [Q7 a,Bool.not_false,Q3,d];rfl
end Go.Sh
namespace Go.Sh
open Go Go.Am
open Classical
end Go.Sh
namespace Go.Sh
open Go Go.Am
def nxX (N : List qa) (i k : Nat) : Bool:=decide (i < k) && decide (k < N.length) && decide ((N[k]?).map (·.X) = (N[i]?).map (·.X)) && (List.range N.length).all fun j=>!(decide (i < j) && decide (j < k)) || !decide ((N[j]?).map (·.X) = (N[i]?).map (·.X))
def nxY (N : List qa) (i k : Nat) : Bool:=decide (i < k) && decide (k < N.length) && decide ((N[k]?).map (·.Y) = (N[i]?).map (·.Y)) && (List.range N.length).all fun j=>!(decide (i < j) && decide (j < k)) || !decide ((N[j]?).map (·.Y) = (N[i]?).map (·.Y))
theorem qvj {N : List qa} {i k : Nat} : nxX N i k = true↔Yz N i k:=by
  simp only [nxX,Bool.and_eq_true,decide_eq_true_eq,List.all_eq_true,List.mem_range,Bool.or_eq_true,Bool.not_eq_true',Bool.and_eq_false_iff,decide_eq_false_iff_not];constructor
  · rintro ⟨⟨⟨l,a⟩,f⟩,g⟩;have hi : i < N.length:=by omega
    rw [List.getElem?_eq_getElem a,List.getElem?_eq_getElem hi] at f;refine ⟨l,a,fun _ _=>Zg f,fun j _ b d c e=>?_⟩;rcases g j b with (h | h) | h
    · exact h d
    · exact h c
    · rw [List.getElem?_eq_getElem b,List.getElem?_eq_getElem hi] at h;exact h (congrArg some e)
  · rintro ⟨l,a,f,g⟩;have hi : i < N.length:=by omega
    refine ⟨⟨⟨l,a⟩,?_⟩,fun j b=>?_⟩
    · rw [List.getElem?_eq_getElem a,List.getElem?_eq_getElem hi];exact congrArg some (f hi a)
    · by_cases d : i < j
      · by_cases c : j < k
        · right;rw [List.getElem?_eq_getElem b,List.getElem?_eq_getElem hi];exact fun e=>g j hi b d c (Zg e)
        · exact .inl (.inr c)
      · exact .inl (.inl d)
theorem qvk {N : List qa} {i k : Nat} : nxY N i k = true↔Z4 N i k:=by
  simp only [nxY,Bool.and_eq_true,decide_eq_true_eq,List.all_eq_true,List.mem_range,Bool.or_eq_true,Bool.not_eq_true',Bool.and_eq_false_iff,decide_eq_false_iff_not];constructor
  · rintro ⟨⟨⟨l,a⟩,f⟩,g⟩;have hi : i < N.length:=by omega
    rw [List.getElem?_eq_getElem a,List.getElem?_eq_getElem hi] at f;refine ⟨l,a,fun _ _=>Zg f,fun j _ b d c e=>?_⟩;rcases g j b with (h | h) | h
    · exact h d
    · exact h c
    · rw [List.getElem?_eq_getElem b,List.getElem?_eq_getElem hi] at h;exact h (congrArg some e)
  · rintro ⟨l,a,f,g⟩;have hi : i < N.length:=by omega
    refine ⟨⟨⟨l,a⟩,?_⟩,fun j b=>?_⟩
    · rw [List.getElem?_eq_getElem a,List.getElem?_eq_getElem hi];exact congrArg some (f hi a)
    · by_cases d : i < j
      · by_cases c : j < k
        · right;rw [List.getElem?_eq_getElem b,List.getElem?_eq_getElem hi];exact fun e=>g j hi b d c (Zg e)
        · exact .inl (.inr c)
      · exact .inl (.inl d)
def rowB (l : List qt) (y x : Int) : Bool:=l.any fun s=>decide (s.A.Y = s.B.Y) && decide (s.A.Y = y) && decide (min s.A.X s.B.X≤x) && decide (x < max s.A.X s.B.X)
def colB (l : List qt) (x y : Int) : Bool:=l.any fun s=>!decide (s.A.Y = s.B.Y) && decide (s.A.X = x) && decide (min s.A.Y s.B.Y≤y) && decide (y < max s.A.Y s.B.Y)
theorem q9a {l : List qt} {y x : Int} : rowB l y x = true↔rowP l y x:=by
  rw [q4g];simp only [rowB,List.any_eq_true,Bool.and_eq_true,decide_eq_true_eq,and_assoc]
theorem q7o {l : List qt} {x y : Int} : colB l x y = true↔colP l x y:=by
  rw [q3w];simp only [colB,List.any_eq_true,Bool.and_eq_true,decide_eq_true_eq,Bool.not_eq_true',decide_eq_false_iff_not,and_assoc]
def edgB (l : List qt) (N : List qa) (i k : Nat) : Bool:=match N[i]? with
  | some p=>(nxX N i k && colB l p.X p.Y) || (nxY N i k && rowB l p.Y p.X)
  | none=>false
theorem qjp {l : List qt} {N : List qa} {i k : Nat} : edgB l N i k = true↔q45 (rowP l) (colP l) N i k:=by
  unfold edgB q45;by_cases hi : i < N.length
  · simp only [List.getElem?_eq_getElem hi,Bool.or_eq_true,Bool.and_eq_true,qvj,qvk,q9a,q7o];exact ⟨fun h=>⟨hi,h⟩,fun ⟨_,h⟩=>h⟩
  · rw [List.getElem?_eq_none q7];exact ⟨fun h=>(by cases h),fun ⟨h,_⟩=>absurd h hi⟩
instance (a b : qi) : Decidable (ltG a b):=by unfold ltG;exact inferInstance
def srtG : List qi→Bool
  | []=>true
  | a::r=>(r.all fun b=>decide (ltG a b)) && srtG r
def srtP : List qa→Bool
  | []=>true
  | a::r=>(r.all fun b=>decide (ltP a b)) && srtP r
theorem qol : ∀ {l : List qi},srtG l = true→l.Pairwise ltG
  | [],_=>.nil
  | a::r,h=>by
    simp only [srtG,Bool.and_eq_true,List.all_eq_true,decide_eq_true_eq] at h
    exact List.pairwise_cons.2 ⟨h.1,qol h.2⟩
theorem qom : ∀ {l : List qa},srtP l = true→l.Pairwise ltP
  | [],_=>.nil
  | a::r,h=>by
    simp only [srtP,Bool.and_eq_true,List.all_eq_true,decide_eq_true_eq] at h
    exact List.pairwise_cons.2 ⟨h.1,qom h.2⟩
def qfh (l : List qt) (n : Qh) : Bool:=srtG n.Edges && (n.Edges.all fun e=>decide (0≤e.A) && decide (0≤e.B) && edgB l n.Nodes e.A.toNat e.B.toNat) && (List.range n.Nodes.length).all fun i=>(List.range n.Nodes.length).all fun k=>!edgB l n.Nodes i k || n.Edges.any fun e=>decide (e = {A:=(i : Int),B:=(k : Int)})
theorem qsn {l : List qt} {n : Qh} (h : qfh l n = true) : q3p (rowP l) (colP l) n.Nodes n.Edges:=by
  simp only [qfh,Bool.and_eq_true,List.all_eq_true,decide_eq_true_eq,List.mem_range,Bool.or_eq_true,Bool.not_eq_true',List.any_eq_true] at h;obtain ⟨⟨j,g⟩,o⟩:=h;refine ⟨qol j,fun e=>⟨fun d=>?_,?_⟩⟩
  · obtain ⟨⟨a,b⟩,c⟩:=g e d;refine ⟨e.A.toNat,e.B.toNat,?_,qjp.1 c⟩;obtain ⟨q,p⟩:=e;simp only [qi.mk.injEq] at a b ⊢;omega
  · rintro ⟨i,k,rfl,d⟩;have hi : i < n.Nodes.length:=d.1;have hk : k < n.Nodes.length:=by obtain ⟨_,⟨h,_⟩ | ⟨h,_⟩⟩:=d <;> exact h.hk
    rcases o i hi k hk with f | ⟨e,m,rfl⟩
    · rw [qjp.2 d] at f;cases f
    · exact m
def qdi (l : List qt) (p : qa) : Bool:=q35 (rowB l p.Y p.X) (colB l p.X p.Y) (rowB l p.Y (p.X - 1)) (colB l p.X (p.Y - 1))
open Classical in
theorem qma {l : List qt} {p : qa} : qdi l p = true↔Kv (rowP l) (colP l) p.X p.Y:=by
  unfold qdi Kv
  have e : ∀ {b : Bool} {P : Prop},(b = true↔P)→b = decide P:=by
    intro b P h;cases b
    · symm;exact Q7 (fun hp=>by have:=h.2 hp;cases this)
    · symm;exact Q5 (h.1 rfl)
  rw [e q9a,e q7o,e q9a,e q7o]
def qis (l : List qt) : List qa:=l.flatMap (fun s=>[s.A,s.B]) ++ l.flatMap fun h=>l.map fun v=>({X:=v.A.X,Y:=h.A.Y} : qa)
def qgk (l : List qt) (N : List qa) : Bool:=srtP N && (N.all fun p=>qdi l p) && (qis l).all fun p=>!qdi l p || N.any fun q=>decide (q = p)
theorem qvf {l : List qt} {N : List qa} (m : ∀ s∈l,SegV s) (h : qgk l N = true) : Yf (rowP l) (colP l) N:=by
  simp only [qgk,Bool.and_eq_true,List.all_eq_true,Bool.or_eq_true,Bool.not_eq_true',List.any_eq_true,decide_eq_true_eq] at h;obtain ⟨⟨n,d⟩,g⟩:=h;refine ⟨qom n,fun p=>⟨fun hp=>qma.1 (d p hp),fun b=>?_⟩⟩
  have o : p∈qis l:=by
    rcases qlp.1 (qgi m b) with ⟨s,hs,k⟩ | ⟨h,f,_,v,a,_,rfl⟩
    · exact List.mem_append_left _ (List.mem_flatMap.2 ⟨s,hs,by rcases k with rfl | rfl <;> simp⟩)
    · exact List.mem_append_right _ (List.mem_flatMap.2 ⟨h,f,List.mem_map.2 ⟨v,a,rfl⟩⟩)
  rcases g p o with c | ⟨q,j,rfl⟩
  · rw [qma.2 b] at c;cases c
  · exact j
def ptB (p : qa) : Bool:=decide (-1000000≤p.X) && decide (p.X≤1000000) && decide (-1000000≤p.Y) && decide (p.Y≤1000000)
def segB (s : qt) : Bool:=ptB s.A && ptB s.B && (decide (s.A.X = s.B.X) != decide (s.A.Y = s.B.Y))
theorem q10y {s : qt} (h : segB s = true) : SegV s:=by
  simp only [segB,ptB,Bool.and_eq_true,decide_eq_true_eq,bne_iff_ne,ne_eq,decide_eq_decide] at h;obtain ⟨⟨⟨⟨⟨b,d⟩,g⟩,a⟩,⟨⟨b1,b2⟩,j⟩,f⟩,c⟩:=h;refine ⟨⟨b,d,g,a⟩,⟨b1,b2,j,f⟩,?_⟩;by_cases e1 : s.A.X = s.B.X <;> by_cases k : s.A.Y = s.B.Y <;> simp [e1,k] at c ⊢
def netB (l : List qt) (n : Qh) : Bool:=l.all segB && decide (l.length≤24) && qgk l n.Nodes && qfh l n
theorem q8g {l : List qt} {n : Qh} (h : netB l n = true) : (∀ s∈l,SegV s)∧l.length≤24∧Zz (rowP l) (colP l) n∧J5 n (J8 n)∧Ux l = some (n,0):=by
  simp only [netB,Bool.and_eq_true,List.all_eq_true,decide_eq_true_eq] at h;obtain ⟨⟨⟨q,k⟩,o⟩,p⟩:=h;have j : ∀ s∈l,SegV s:=fun s hs=>q10y (q s hs);obtain ⟨m,e1,_,g,hs,_⟩:=qlj k j;have f : m.Nodes = n.Nodes:=qmb g.nodes (qvf j o);have O : m.Edges = n.Edges:=qjr (by rw [← f];exact g.edges) (qsn p)
  have : m = n:=by
    obtain ⟨a,b⟩:=m;obtain ⟨c,d⟩:=n;simp only at f O;rw [f,O]
  subst this;exact ⟨j,k,g,hs,e1⟩
end Go.Sh
namespace Go.Sh
open Go Go.Am
open Classical
theorem qk9 (p : qa) : q41 p = some (decide (PtB p)):=by
  unfold q41;by_cases h : PtB p
  · have a:=h;unfold PtB at a;rw [Q5 h,Qb q7,Qb q7,Q5 (show max (max (max p.X (0 - p.X)) p.Y) (0 - p.Y)≤1000000 by omega),Q3,Q5 (show min p.X p.Y ≥ -1000000 by omega)];rfl
  · have a:=h;unfold PtB at a;rw [Q7 h];by_cases b : (max (max (max p.X (w64 (0 - p.X))) p.Y) (w64 (0 - p.Y)))≤1000000
    · rw [Q5 b,Q3,Q7 (show ¬ min p.X p.Y ≥ -1000000 by omega)];rfl
    · rw [Q7 b];rfl
def dirs : List qa:=[{X:=1,Y:=0},{X:=0,Y:=1},{X:=(-1),Y:=0},{X:=0,Y:=(-1)}]
theorem qk3 : q57 [] = some 0:=by
  unfold q57;have : loop (qcv []) 0 = some (.inl ()):=Kh rfl;rw [this];rfl
theorem qt2 (p : qa) : q7x [] p = some 2:=by
  unfold q7x qcw;have : loop (qcx [] p) (0,0) = some 0:=Kh rfl;rw [this];rfl
theorem qp2 {p : qa} {h : Nat} {d : qa} (g : h < 4) (hd : dirs[h]? = some d) (hp : PtB p) (f : PtB {X:=p.X + d.X,Y:=p.Y + d.Y}) : q40 [] p (h : Int) 1 = some ([p,{X:=p.X + d.X,Y:=p.Y + d.Y}],0):=by
  have b:=f;unfold PtB at b;simp only at b
  have c : idxA 4 dirs (h : Int) = some d:=by
    unfold idxA;simp only [Int.toNat_natCast]
    first
      | (rw [Q1 q7];exact hd)
      | (rw [Q1 ⟨q7,q7⟩];exact hd)
      | simp [hd,g]
  have s0 : q58 1 [] ((h : Int),0,p.X,p.Y,[p]) = some (.inl ((h : Int),1,p.X + d.X,p.Y + d.Y,[p,{X:=p.X + d.X,Y:=p.Y + d.Y}])):=by
    unfold q58;have a : idxA 4 [({X:=1,Y:=0} : qa),({X:=0,Y:=1} : qa),({X:=(-1),Y:=0} : qa),({X:=0,Y:=(-1)} : qa)] (h : Int) = some d:=c;have c0 : decide ((0 : Int) < 1) = true:=rfl;have c2 : decide ((2 : Int) < 2) = false:=rfl;simp only [c0,Q3,qt2,qn,c2,Q0,a];rw [Qb (x:=p.X + d.X) q7,Qb (x:=p.Y + d.Y) q7,qk9,Q5 f];rfl
  have s1 : q58 1 [] ((h : Int),1,p.X + d.X,p.Y + d.Y,[p,{X:=p.X + d.X,Y:=p.Y + d.Y}]) = some (.inr (.inl [p,{X:=p.X + d.X,Y:=p.Y + d.Y}])):=rfl;unfold q40;have e0 : ((0 : Int) != 0) = false:=rfl;rw [qk3,qn,e0,Q0,qk9,Q5 hp,qn,Bool.not_true,Q0,qn,Q7 (show ¬ (h : Int) > 3 by omega),Q0,qn];have c1 : decide ((1 : Int) < 0) = false:=rfl;have c3 : decide ((1 : Int) > 500) = false:=rfl;rw [c1,Q0,qn,c3,Q0,Kf s0,Kh s1];rfl
theorem qjk {h : Nat} {d : qa} (b : h < 4) (hd : dirs[h]? = some d) : q9g dirs d = some (h : Int):=by
  have nx : ∀ (d : qa) (k : Nat) (e : qa),dirs[k]? = some e→k < 4→e≠d→q2h dirs d (k : Int) = some (.inl ((k + 1 : Nat) : Int)):=by
    intro d k e c hk f;unfold q2h;rw [Q5 (show (k : Int) < (dirs.length : Int) by have : dirs.length = 4:=rfl;omega),Q3];have : idx dirs (k : Int) = some e:=by unfold idx;simp [c]
    rw [this,qn,beqP,Q7 (fun h=>f h.symm),Q0,Qb q7];rfl
  have fd : ∀ (d : qa) (k : Nat),dirs[k]? = some d→k < 4→q2h dirs d (k : Int) = some (.inr (.inr (k : Int))):=by
    intro d k c hk;unfold q2h;rw [Q5 (show (k : Int) < (dirs.length : Int) by have : dirs.length = 4:=rfl;omega),Q3];have : idx dirs (k : Int) = some d:=by unfold idx;simp [c]
    rw [this,qn,beqP,Q5 rfl,Q3]
  have key : loop (q2h dirs d) ((0 : Nat) : Int) = some (.inr (h : Int)):=by
    have : h = 0∨h = 1∨h = 2∨h = 3:=by omega
    rcases this with rfl | rfl | rfl | rfl
    · exact Kh (fd d 0 hd b)
    · cases hd;rw [Kf (nx _ 0 _ rfl q7 qz)];exact Kh (fd _ 1 rfl b)
    · cases hd;rw [Kf (nx _ 0 _ rfl q7 qz),Kf (nx _ 1 _ rfl q7 qz)];exact Kh (fd _ 2 rfl b)
    · cases hd;rw [Kf (nx _ 0 _ rfl q7 qz),Kf (nx _ 1 _ rfl q7 qz),Kf (nx _ 2 _ rfl q7 qz)];exact Kh (fd _ 3 rfl b)
  have a : loop (q2h dirs d) 0 = some (.inr (h : Int)):=key;unfold q9g;rw [a];rfl
end Go.Sh
namespace Go.Sh
open Go Go.Am
def qeb (w : Yt) (h k : Nat) (vis : List (qa × Bool)) (segs : List qt) (p q : qa) : Option ((Int × Int × (List (qa × Bool)) × List qt × Int × Int) ⊕ (((List (qa × Bool)) × List qt) ⊕ (Int × (List (qa × Bool)) × List qt))):=
  (cond (K6 false q vis) (some true) (some ((q.X == w.At.X) && ((q.Y == w.At.Y) && true)))).bind fun c=>cond c (some (.inr (.inl (Ka q true (Ka p true vis),segs)))) (some (.inl ((h : Int),((k + 1 : Nat) : Int),Ka q true (Ka p true vis),segs,q.X,q.Y)))
theorem qp6 (w : Yt) {h : Nat} {d : qa} (n : h < 4) (hd : dirs[h]? = some d) (hk : 0 < w.Steps) (p : qa) (hp : PtB p) (o : PtB {X:=p.X + d.X,Y:=p.Y + d.Y}) (l : List (qa × Bool)) (c : List qt) (hs : c.length < 400) :
    Zw w [] ((h : Int),0,l,c,p.X,p.Y) = qeb w h 0 l (c ++ [{A:=p,B:={X:=p.X + d.X,Y:=p.Y + d.Y}}]) p {X:=p.X + d.X,Y:=p.Y + d.Y}:=by
  have hp':=hp;have k:=o;unfold PtB at hp' k;simp only at k;have r:=qp2 n hd hp o
  have q : ({X:=w64 (p.X + d.X - p.X),Y:=w64 (p.Y + d.Y - p.Y)} : qa) = d:=by
    rw [Qb q7,Qb q7];obtain ⟨a,b⟩:=d;simp only [qa.mk.injEq];omega
  have f : IntKind.wrap .u8 (h : Int) = (h : Int):=by
    have : h = 0∨h = 1∨h = 2∨h = 3:=by omega
    rcases this with rfl | rfl | rfl | rfl <;> rfl
  have g:=qjk n hd;unfold dirs at g;have e0 : ((0 : Int) != 0) = false:=rfl;have j : ∀ a b : qa,idx [a,b] 1 = some b:=fun a b=>rfl;have s : decide ((0 : Int) > 0) = false:=rfl;unfold Zw qeb;simp only [Q5 hk,Q3];have m : q40 [] ({X:=p.X,Y:=p.Y} : qa) (h : Int) 1 = some ([p,{X:=p.X + d.X,Y:=p.Y + d.Y}],0):=r;simp only [m,qn,e0,Q0,j,q,g,s,f];rw [Yg (by simp;omega)];simp only [qn];rw [Q7 (show ¬ (((c ++ [({A:={X:=p.X,Y:=p.Y},B:={X:=p.X + d.X,Y:=p.Y + d.Y}} : qt)]).length : Int) > 400) by simp;omega),Q0];simp only [qn];rw [Qb q7];rfl
theorem qeh (w : Yt) {h : Nat} {d : qa} (t : h < 4) (hd : dirs[h]? = some d) {k : Nat} (ab : 0 < k) (hk : (k : Int) < w.Steps) (y : k≤1000) (p : qa) (hp : PtB p) (v : PtB {X:=p.X + d.X,Y:=p.Y + d.Y}) (o : List (qa × Bool)) (c : List qt) (s : qt) (hs : c.length≤400) :
    Zw w [] ((h : Int),(k : Int),o,c ++ [s],p.X,p.Y) = qeb w h k o (c ++ [{A:=s.A,B:={X:=p.X + d.X,Y:=p.Y + d.Y}}]) p {X:=p.X + d.X,Y:=p.Y + d.Y}:=by
  have hp':=hp;have n:=v;unfold PtB at hp' n;simp only at n;have z:=qp2 t hd hp v
  have x : ({X:=w64 (p.X + d.X - p.X),Y:=w64 (p.Y + d.Y - p.Y)} : qa) = d:=by
    rw [Qb q7,Qb q7];obtain ⟨a,b⟩:=d;simp only [qa.mk.injEq];omega
  have g : IntKind.wrap .u8 (h : Int) = (h : Int):=by
    have : h = 0∨h = 1∨h = 2∨h = 3:=by omega
    rcases this with rfl | rfl | rfl | rfl <;> rfl
  have j:=qjk t hd;unfold dirs at j;have e0 : ((0 : Int) != 0) = false:=rfl;have l : ∀ a b : qa,idx [a,b] 1 = some b:=fun a b=>rfl;have hg : decide ((k : Int) > 0) = true:=Q5 q7;have q : w64 (((c ++ [s]).length : Int) - 1) = (c.length : Int):=by rw [Qb (by simp;omega)];simp
  have f : idx (c ++ [s]) (c.length : Int) = some s:=by rw [Qv qd];simp
  unfold Zw qeb;simp only [Q5 hk,Q3];have r : q40 [] ({X:=p.X,Y:=p.Y} : qa) (h : Int) 1 = some ([p,{X:=p.X + d.X,Y:=p.Y + d.Y}],0):=z;simp only [r,qn,e0,Q0,l,x,j,hg,g,Q3,beq_self_eq_true,q,f,Int.toNat_natCast];have m : ∀ u : qt,(c ++ [s]).set c.length u = c ++ [u]:=by intro u;simp
  simp only [m];rw [Qb q7];rfl
end Go.Sh
namespace Go.Sh
open Go Go.Am
abbrev pq (x y : Int) : qa:={X:=x,Y:=y}
abbrev sg (a b c d : Int) : qt:={A:=pq a b,B:=pq c d}
abbrev ed (a b : Int) : qi:={A:=a,B:=b}
def n4 : Qh:={Nodes:=[pq 0 0,pq 2 0,pq 2 3,pq 4 0],Edges:=[ed 0 1,ed 1 2,ed 1 3]}
def n5 : Qh:={Nodes:=[pq 0 0,pq 2 (-1),pq 2 0,pq 2 3,pq 4 0],Edges:=[ed 0 2,ed 1 2,ed 2 3,ed 2 4]}
def n6 : Qh:={Nodes:=[pq 0 0,pq 2 0,pq 2 2,pq 4 0],Edges:=[ed 0 1,ed 1 2,ed 1 3]}
def n2 : Qh:={Nodes:=[pq 0 0,pq 4 0],Edges:=[ed 0 1]}
theorem net4 : netB [sg 0 0 4 0,sg 2 0 2 3] n4 = true:=by decide +kernel
theorem net5 : netB [sg 0 0 4 0,sg 2 3 2 0,sg 2 (-1) 2 0] n5 = true:=by decide +kernel
theorem net6 : netB [sg 0 0 4 0,sg 2 2 2 0] n6 = true:=by decide +kernel
theorem net2 : netB [sg 0 0 2 0,sg 2 0 4 0] n2 = true:=by decide +kernel
theorem qll {l : List qt} {n : Qh} (h : netB l n = true) : q5f n l = some true:=by
  obtain ⟨_,_,b,hs,e⟩:=q8g h;obtain ⟨c1,_,_,_⟩:=qhq hs.fit hs;unfold q5f;have a:=qhc n n (by have:=hs.fit.1.1;omega) (by have:=hs.fit.1.2;omega);simp only [e,qn,a,decide_true,c1,beq_self_eq_true,Q3]
open Classical in
theorem qji (l : List qt) (p : qa) : degN l p = b2z (rowB l p.Y p.X) + b2z (colB l p.X p.Y) + b2z (rowB l p.Y (p.X - 1)) + b2z (colB l p.X (p.Y - 1)):=by
  have e : ∀ {b : Bool} {P : Prop},(b = true↔P)→decide P = b:=by
    intro b P h;cases b
    · exact Q7 (fun hp=>by have:=h.2 hp;cases this)
    · exact Q5 (h.1 rfl)
  unfold degN;rw [e q9a,e q7o,e q9a,e q7o]
theorem qjj {l : List qt} {n : Qh} (h : netB l n = true) {i : Nat} (hi : i < n.Nodes.length) : q2l n (i : Int) = some (degN l n.Nodes[i],0):=by
  obtain ⟨c,f,a,hs,e⟩:=q8g h;have hb:=qev (show l.length≤400 by omega) c;rw [(qrf hs.fit hs hi).1];have d : rowP (J8 n) = rowP l:=by funext y x;exact propext (qfg hb a y x)
  have b : colP (J8 n) = colP l:=by funext y x;exact propext (qff hb a y x)
  unfold degN;rw [d,b]
def w1 : Yt:={At:=pq 0 0,Head:=0,Steps:=4}
def w2 : Yt:={At:=pq 2 2,Head:=3,Steps:=9}
def V4 : List (qa × Bool):=[(pq 0 0,true),(pq 1 0,true),(pq 2 0,true),(pq 3 0,true),(pq 4 0,true)]
theorem pb {x y : Int} (h : -1000≤x∧x≤1000∧-1000≤y∧y≤1000) : PtB {X:=x,Y:=y}:=by unfold PtB;simp only;omega
theorem q13i : q4x [] w1 [] [] = some (0,V4,[sg 0 0 4 0]):=by
  have s0 : Zw w1 [] (0,0,[],[],0,0) = some (.inl (0,1,[(pq 0 0,true),(pq 1 0,true)],[sg 0 0 1 0],1,0)):=(qp6 w1 (h:=0) (d:=pq 1 0) q7 rfl qz (pq 0 0) (pb qz) (pb qz) [] [] qd).trans rfl;have s1 : Zw w1 [] (0,1,[(pq 0 0,true),(pq 1 0,true)],[sg 0 0 1 0],1,0) = some (.inl (0,2,[(pq 0 0,true),(pq 1 0,true),(pq 2 0,true)],[sg 0 0 2 0],2,0)):=(qeh w1 (h:=0) (d:=pq 1 0) q7 rfl (k:=1) q7 qz q7 (pq 1 0) (pb qz) (pb qz) [(pq 0 0,true),(pq 1 0,true)] [] (sg 0 0 1 0) qd).trans rfl;have c : Zw w1 [] (0,2,[(pq 0 0,true),(pq 1 0,true),(pq 2 0,true)],[sg 0 0 2 0],2,0) = some (.inl (0,3,[(pq 0 0,true),(pq 1 0,true),(pq 2 0,true),(pq 3 0,true)],[sg 0 0 3 0],3,0)):=(qeh w1 (h:=0) (d:=pq 1 0) q7 rfl (k:=2) q7 qz q7 (pq 2 0) (pb qz) (pb qz) [(pq 0 0,true),(pq 1 0,true),(pq 2 0,true)] [] (sg 0 0 2 0) qd).trans rfl;have a : Zw w1 [] (0,3,[(pq 0 0,true),(pq 1 0,true),(pq 2 0,true),(pq 3 0,true)],[sg 0 0 3 0],3,0) = some (.inl (0,4,V4,[sg 0 0 4 0],4,0)):=(qeh w1 (h:=0) (d:=pq 1 0) q7 rfl (k:=3) q7 qz q7 (pq 3 0) (pb qz) (pb qz) [(pq 0 0,true),(pq 1 0,true),(pq 2 0,true),(pq 3 0,true)] [] (sg 0 0 3 0) qd).trans rfl;have b : Zw w1 [] (0,4,V4,[sg 0 0 4 0],4,0) = some (.inr (.inl (V4,[sg 0 0 4 0]))):=rfl;unfold q4x;show (loop (Zw w1 []) (0,0,[],[],0,0)).bind _ = _;rw [Kf s0,Kf s1,Kf c,Kf a,Kh b];rfl
theorem q13j : ∃ V,q4x [] w2 [sg 0 0 4 0] V4 = some (0,V,[sg 0 0 4 0,sg 2 2 2 0]):=by
  have s0 : Zw w2 [] (3,0,V4,[sg 0 0 4 0],2,2) = some (.inl (3,1,V4 ++ [(pq 2 2,true),(pq 2 1,true)],[sg 0 0 4 0,sg 2 2 2 1],2,1)):=(qp6 w2 (h:=3) (d:=pq 0 (-1)) q7 rfl qz (pq 2 2) (pb qz) (pb qz) V4 [sg 0 0 4 0] qd).trans rfl;have s1 : Zw w2 [] (3,1,V4 ++ [(pq 2 2,true),(pq 2 1,true)],[sg 0 0 4 0,sg 2 2 2 1],2,1) = some (.inr (.inl (V4 ++ [(pq 2 2,true),(pq 2 1,true)],[sg 0 0 4 0,sg 2 2 2 0]))):=(qeh w2 (h:=3) (d:=pq 0 (-1)) q7 rfl (k:=1) q7 qz q7 (pq 2 1) (pb qz) (pb qz) (V4 ++ [(pq 2 2,true),(pq 2 1,true)]) [sg 0 0 4 0] (sg 2 2 2 1) qd).trans rfl;refine ⟨V4 ++ [(pq 2 2,true),(pq 2 1,true)],?_⟩;unfold q4x;show (loop (Zw w2 []) (3,0,V4,[sg 0 0 4 0],2,2)).bind _ = _;rw [Kf s0,Kh s1];rfl
theorem qtk : qbt [] [w1,w2] = some (n6,0):=by
  obtain ⟨V,j⟩:=q13j;have c : q77 [w1,w2] 0 = some (.inl 1):=rfl;have f : q77 [w1,w2] 1 = some (.inl 2):=rfl;have g : q77 [w1,w2] 2 = some (.inr (.inl ())):=rfl;have e0 : ((0 : Int) != 0) = false:=rfl
  have d : q3f [w1,w2] [] (0,[],[]) = some (.inl (1,[sg 0 0 4 0],V4)):=by
    unfold q3f;have b : decide ((0 : Int) < (([w1,w2] : List Yt).length : Int)) = true:=rfl;have a : idx [w1,w2] 0 = some w1:=rfl;simp only [b,Q3,a,qn,q13i,e0,Q0];rfl
  have b1 : q3f [w1,w2] [] (1,[sg 0 0 4 0],V4) = some (.inl (2,[sg 0 0 4 0,sg 2 2 2 0],V)):=by
    unfold q3f;have b : decide ((1 : Int) < (([w1,w2] : List Yt).length : Int)) = true:=rfl;have a : idx [w1,w2] 1 = some w2:=rfl;simp only [b,Q3,a,qn,j,e0,Q0];rfl
  have b2 : q3f [w1,w2] [] (2,[sg 0 0 4 0,sg 2 2 2 0],V) = some (.inr (.inl [sg 0 0 4 0,sg 2 2 2 0])):=rfl;unfold qbt;have h : decide ((([w1,w2] : List Yt).length : Int) > 30) = false:=rfl;rw [qk3,qn,e0,Q0,h,Q0,Kf c,Kf f,Kh g];simp only [qn];rw [Kf d,Kf b1,Kh b2];simp only [qn];rw [(q8g net6).2.2.2.2];rfl
theorem qtq : q8w n5.Nodes (pq 2 0) = some 2:=by
  have b : q5w n5.Nodes (pq 2 0) 0 = some (.inl 1):=rfl;have a : q5w n5.Nodes (pq 2 0) 1 = some (.inl 2):=rfl;have c : q5w n5.Nodes (pq 2 0) 2 = some (.inr (.inr 2)):=rfl;unfold q8w;rw [Kf b,Kf a,Kh c];rfl
theorem len4 : q78 n4 = some (7,0):=by
  obtain ⟨_,_,f,hs,_⟩:=q8g net4;obtain ⟨a,c,e1,_,b,h⟩:=que hs.fit;have d:=h _ hs;obtain ⟨c1,_,_,_⟩:=qhq hs.fit hs;rw [b] at c1;cases c1;have : Yv (J8 n4) = 7:=by rfl
  rw [e1,d,this]
theorem qpj : q47 = some true:=by
  have d : q2l n4 1 = some (3,0):=by
    have:=qjj net4 (i:=1) qz;rw [qji] at this;exact this
  have k : q2l n5 2 = some (4,0):=by
    have:=qjj net5 (i:=2) qz;rw [qji] at this;exact this
  have l:=(q8g net5).2.2.2.2;have g:=qll net4;have c:=qll net2;have j:=qtq;have b:=len4;have f:=qtk;have a:=qhc n6 n6 qz qz;unfold n4 at d g b;unfold w1 w2 at f;unfold n2 at c;unfold q47;simp only [Ya,q1l,qn,d,b,l,j,k,f,g,c,beq_self_eq_true,Q3]
  have h : q39 n6 {Nodes:=[{X:=0,Y:=0},{X:=2,Y:=0},{X:=2,Y:=2},{X:=4,Y:=0}],Edges:=[{A:=0,B:=1},{A:=1,B:=2},{A:=1,B:=3}]} = some true:=by
    have:=a;rw [Q5 rfl] at this;exact this
  rw [h];rfl
end Go.Sh
namespace Go.Sh
open Go Go.Am
theorem qu8 {α : Type} {l : List α} (h : l.length≤maxLen) : Len64 l:=by
  have : maxLen≤9223372036854775807:=by decide
  unfold Len64;omega
theorem q147 (l : List qt) (p : qa) (h : l.length≤maxLen) : q85 l p = some true:=q12w qpj l p (qu8 h)
end Go.Sh
