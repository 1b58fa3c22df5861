/- St20 St21 St22 St23 St24 St25 St26 St27 St34 -/
import Derived.Test.YtgkialgkmjnfbaaGreatK14
namespace Go.Sh
open Go Go.Am
open Classical
theorem q84 {α β : Type} {f : α→List β} {c : Nat} : ∀ {l : List α},(∀ x∈l,(f x).length = c)→(l.flatMap f).length = l.length * c
  | [],_=>by simp
  | a::l,h=>by
    rw [List.flatMap_cons,List.length_append,h a qb,q84 (l:=l) fun x b=>h x (by simp [b]),List.length_cons,Nat.succ_mul]
    omega
theorem qkc {α : Type} (p : α→Bool) : ∀ l : List α,(l.filter p).length + (l.filter fun x=>!p x).length = l.length
  | []=>rfl
  | a::l=>by
    have:=qkc p l
    cases h : p a <;> simp [h] <;> omega
noncomputable def q3w (l : List qr) : List qa:=l.flatMap (fun s=>[s.A,s.B]) ++ (l.filter fun s=>decide (s.A.Y = s.B.Y)).flatMap fun h=>(l.filter fun s=>!decide (s.A.Y = s.B.Y)).map fun v=>({X:=v.A.X,Y:=h.A.Y} : qa)
theorem qyt : ∀ h,h < 25→∀ v,v < 25→h + v≤24→h * v≤144:=by decide
theorem qix {l : List qr} (c : l.length≤24) : (q3w l).length≤192:=by
  have e1 : (l.flatMap fun s=>[s.A,s.B]).length = l.length * 2:=q84 fun _ _=>rfl;have a : ((l.filter fun s=>decide (s.A.Y = s.B.Y)).flatMap fun h=>(l.filter fun s=>!decide (s.A.Y = s.B.Y)).map fun v=>({X:=v.A.X,Y:=h.A.Y} : qa)).length = (l.filter fun s=>decide (s.A.Y = s.B.Y)).length * (l.filter fun s=>!decide (s.A.Y = s.B.Y)).length:=q84 fun _ _=>by simp
  have b:=qkc (fun s : qr=>decide (s.A.Y = s.B.Y)) l;unfold q3w;rw [List.length_append,e1,a];have:=qyt _ (show (l.filter fun s : qr=>decide (s.A.Y = s.B.Y)).length < 25 by omega) _ (show (l.filter fun s : qr=>!decide (s.A.Y = s.B.Y)).length < 25 by omega) q7;omega
theorem q2h {l : List qr} {y x : Int} : rowP l y x↔∃ s∈l,s.A.Y = s.B.Y∧s.A.Y = y∧min s.A.X s.B.X≤x∧x < max s.A.X s.B.X:=by
  constructor
  · rintro ⟨⟨k,t⟩,hp,rfl,b,a⟩;obtain ⟨s,hs,c,rfl,rfl⟩:=q5l.1 hp;exact ⟨s,hs,c,rfl,b,a⟩
  · rintro ⟨s,hs,c,rfl,b,a⟩;exact ⟨(_,_),q5l.2 ⟨s,hs,c,rfl,rfl⟩,rfl,b,a⟩
theorem q1x {l : List qr} {x y : Int} : colP l x y↔∃ s∈l,s.A.Y≠s.B.Y∧s.A.X = x∧min s.A.Y s.B.Y≤y∧y < max s.A.Y s.B.Y:=by
  constructor
  · rintro ⟨⟨k,t⟩,hp,rfl,b,a⟩;obtain ⟨s,hs,c,rfl,rfl⟩:=q5k.1 hp;exact ⟨s,hs,c,rfl,b,a⟩
  · rintro ⟨s,hs,c,rfl,b,a⟩;exact ⟨(_,_),q5k.2 ⟨s,hs,c,rfl,rfl⟩,rfl,b,a⟩
theorem qlv {l : List qr} {p : qa} : p∈q3w l↔(∃ s∈l,p = s.A∨p = s.B)∨∃ h∈l,h.A.Y = h.B.Y∧∃ v∈l,v.A.Y≠v.B.Y∧p = {X:=v.A.X,Y:=h.A.Y}:=by
  simp only [q3w,List.mem_append,List.mem_flatMap,List.mem_cons,List.not_mem_nil,or_false,List.mem_filter,List.mem_map,decide_eq_true_eq,Bool.not_eq_true',decide_eq_false_iff_not];constructor
  · rintro (h | ⟨h,⟨c,a⟩,v,⟨d,b⟩,rfl⟩)
    · exact .inl h
    · exact .inr ⟨h,c,a,v,d,b,rfl⟩
  · rintro (h | ⟨h,c,a,v,d,b,rfl⟩)
    · exact .inl h
    · exact .inr ⟨h,⟨c,a⟩,v,⟨d,b⟩,rfl⟩
theorem qzw {l : List qr} (m : ∀ s∈l,SegV s) {c d : Int} (e : rowP l d c) (w : ¬ rowP l d (c - 1)) : ∃ s∈l,({X:=c,Y:=d} : qa) = s.A∨({X:=c,Y:=d} : qa) = s.B:=by
  obtain ⟨a,b,j,k,u,o⟩:=q2h.1 e;have h : ¬ (min a.A.X a.B.X≤c - 1∧c - 1 < max a.A.X a.B.X):=fun g=>w (q2h.2 ⟨a,b,j,k,g.1,g.2⟩);have p:=(m a b).or;refine ⟨a,b,?_⟩;rcases Int.le_total a.A.X a.B.X with f | f
  · left;obtain ⟨⟨q,t⟩,r⟩:=a;simp only [qa.mk.injEq] at *;omega
  · right;obtain ⟨v,⟨bx,n⟩⟩:=a;simp only [qa.mk.injEq] at *;omega
theorem qzv {l : List qr} (m : ∀ s∈l,SegV s) {c d : Int} (e : rowP l d (c - 1)) (w : ¬ rowP l d c) : ∃ s∈l,({X:=c,Y:=d} : qa) = s.A∨({X:=c,Y:=d} : qa) = s.B:=by
  obtain ⟨a,b,j,k,u,o⟩:=q2h.1 e;have h : ¬ (min a.A.X a.B.X≤c∧c < max a.A.X a.B.X):=fun g=>w (q2h.2 ⟨a,b,j,k,g.1,g.2⟩);have p:=(m a b).or;refine ⟨a,b,?_⟩;rcases Int.le_total a.A.X a.B.X with f | f
  · right;obtain ⟨v,⟨bx,n⟩⟩:=a;simp only [qa.mk.injEq] at *;omega
  · left;obtain ⟨⟨q,t⟩,r⟩:=a;simp only [qa.mk.injEq] at *;omega
theorem qje {l : List qr} (m : ∀ s∈l,SegV s) {d c : Int} (e : colP l d c) (w : ¬ colP l d (c - 1)) : ∃ s∈l,({X:=d,Y:=c} : qa) = s.A∨({X:=d,Y:=c} : qa) = s.B:=by
  obtain ⟨a,b,j,k,u,o⟩:=q1x.1 e;have h : ¬ (min a.A.Y a.B.Y≤c - 1∧c - 1 < max a.A.Y a.B.Y):=fun g=>w (q1x.2 ⟨a,b,j,k,g.1,g.2⟩);have p:=(m a b).or;refine ⟨a,b,?_⟩;rcases Int.le_total a.A.Y a.B.Y with f | f
  · left;obtain ⟨⟨q,t⟩,r⟩:=a;simp only [qa.mk.injEq] at *;omega
  · right;obtain ⟨v,⟨bx,n⟩⟩:=a;simp only [qa.mk.injEq] at *;omega
theorem qjd {l : List qr} (m : ∀ s∈l,SegV s) {d c : Int} (e : colP l d (c - 1)) (w : ¬ colP l d c) : ∃ s∈l,({X:=d,Y:=c} : qa) = s.A∨({X:=d,Y:=c} : qa) = s.B:=by
  obtain ⟨a,b,j,k,u,o⟩:=q1x.1 e;have h : ¬ (min a.A.Y a.B.Y≤c∧c < max a.A.Y a.B.Y):=fun g=>w (q1x.2 ⟨a,b,j,k,g.1,g.2⟩);have p:=(m a b).or;refine ⟨a,b,?_⟩;rcases Int.le_total a.A.Y a.B.Y with f | f
  · right;obtain ⟨v,⟨bx,n⟩⟩:=a;simp only [qa.mk.injEq] at *;omega
  · left;obtain ⟨⟨q,t⟩,r⟩:=a;simp only [qa.mk.injEq] at *;omega
theorem qgn {l : List qr} (c : ∀ s∈l,SegV s) {p : qa} (h : Kv (rowP l) (colP l) p.X p.Y) : p∈q3w l:=by
  rw [qlv];obtain ⟨a,b⟩:=p;simp only at h;by_cases e : rowP l b a
  · by_cases w : rowP l b (a - 1)
    · by_cases n : colP l a b
      · by_cases s : colP l a (b - 1)
        · right;obtain ⟨j,f,m,g,u,r⟩:=q2h.1 e;obtain ⟨q,d,o,k,v,t⟩:=q1x.1 n;exact ⟨j,f,m,q,d,o,by rw [k,g]⟩
        · exact .inl (qje c n s)
      · by_cases s : colP l a (b - 1)
        · exact .inl (qjd c s n)
        · exfalso;unfold Kv at h;rw [Q2 e,Q2 w,Q4 n,Q4 s] at h;exact absurd h qy
    · exact .inl (qzw c e w)
  · by_cases w : rowP l b (a - 1)
    · exact .inl (qzv c w e)
    · by_cases n : colP l a b
      · by_cases s : colP l a (b - 1)
        · exfalso;unfold Kv at h;rw [Q4 e,Q4 w,Q2 n,Q2 s] at h;exact absurd h qy
        · exact .inl (qje c n s)
      · by_cases s : colP l a (b - 1)
        · exact .inl (qjd c s n)
        · exfalso;unfold Kv at h;rw [Q4 e,Q4 w,Q4 n,Q4 s] at h;exact absurd h qy
theorem qlo {l : List qr} (d : l.length≤24) (c : ∀ s∈l,SegV s) : ∃ n,J5 l = some (n,0)∧q8y l = some (n,0)∧Zo (rowP l) (colP l) n∧J7 n (Ja n)∧n.Nodes.length≤192:=by
  rcases qlq (l:=l) q7 c with ⟨n,e1,j,h⟩ | ⟨_,_,b,f,m,g⟩
  · have k : n.Nodes.Nodup:=h.nodes.srt.imp (by rintro a b h rfl;exact q37 a a h h);have:=List.Nodup.length_le_of_subset k (l₂:=q3w l) fun p hp=>qgn c ((h.nodes.mem p).1 hp);have:=qix d;have:=h.elen;exact ⟨n,e1,j,h,q12l (qey q7 c) h q7,q7⟩
  · have:=List.Nodup.length_le_of_subset f (l₂:=q3w l) fun p hp=>qgn c (g p hp);have:=qix d;omega
theorem qim {l : List qr} (a : ∀ s∈l,SegV s) (p : qa) : Zc l p = true↔rowP l p.Y p.X∨rowP l p.Y (p.X - 1)∨colP l p.X p.Y∨colP l p.X (p.Y - 1):=by
  unfold Zc;simp only [List.any_eq_true,decide_eq_true_eq,q2h,q1x];constructor
  · rintro ⟨s,hs,⟨b,f⟩,c,g⟩;rcases (a s hs).or with ⟨e1,d⟩ | ⟨e1,d⟩
    · by_cases h : p.Y < max s.A.Y s.B.Y
      · exact .inr (.inr (.inl ⟨s,hs,d,q7,c,h⟩))
      · exact .inr (.inr (.inr ⟨s,hs,d,q7,q7,q7⟩))
    · by_cases h : p.X < max s.A.X s.B.X
      · exact .inl ⟨s,hs,d,q7,b,h⟩
      · exact .inr (.inl ⟨s,hs,d,q7,q7,q7⟩)
  · rintro (⟨s,hs,b,f,c,g⟩ | ⟨s,hs,b,f,c,g⟩ | ⟨s,hs,b,f,c,g⟩ | ⟨s,hs,b,f,c,g⟩)
    · exact ⟨s,hs,by have:=(a s hs).or;unfold J3;omega⟩
    · exact ⟨s,hs,by have:=(a s hs).or;unfold J3;omega⟩
    · exact ⟨s,hs,by have:=(a s hs).or;unfold J3;omega⟩
    · exact ⟨s,hs,by have:=(a s hs).or;unfold J3;omega⟩
end Go.Sh
namespace Go.Sh
open Go Go.Am
open Classical
def Len64 {α : Type} (l : List α) : Prop:=(l.length : Int)≤9223372036854775807
theorem qv4 (l : List qr) (g : Len64 l) : q87 l = some (decide ((∀ s∈l,SegV s)∧l.length≤24)):=by
  unfold Len64 at g;have:=Ku (f:=q35 l) (σ:=Unit) (fun k _=>(k : Int)) l.length (fun k _=>∀ i (hi : i < l.length),i < k→SegV l[i]) (fun o=>o = if ∀ s∈l,SegV s then .inl () else .inr false) ?_ ?_ (k0:=0) (c0:=()) q7 (fun i hi h=>q7)
  · obtain ⟨o,e,d⟩:=this;have e : loop (q35 l) 0 = some o:=e;unfold q87;rw [e,d];by_cases h : ∀ s∈l,SegV s
    · rw [Q0 h];simp only [qn];congr 1;exact decide_eq_decide.2 ⟨fun a=>⟨h,q7⟩,fun a=>by have:=a.2;omega⟩
    · rw [Q3 h];simp only [qn];rw [Q4 (fun a=>h a.1)]
  · rintro k _ hk c;by_cases b : SegV l[k]
    · refine .inl ⟨(),?_,fun i hi j=>?_⟩
      · simp only [q35,dlt' hk,Q1,Qu hk,qn,qe3,Q2 b,Bool.not_true,qz];rw [Qb q7];rfl
      · by_cases e : i = k
        · subst e;exact b
        · exact c i hi q7
    · refine .inr ⟨.inr false,?_,by rw [Q3 (fun h=>b (h _ (Ke hk)))]⟩;simp only [q35,dlt' hk,Q1,Qu hk,qn,qe3,Q4 b,Bool.not_false]
  · rintro _ c;refine ⟨.inl (),by simp only [q35,dnl',qz],?_⟩;rw [Q0];intro s hs;obtain ⟨i,hi,rfl⟩:=List.mem_iff_getElem.1 hs;exact c i hi hi
theorem qth {F G : Int→Int→Prop} {n : Qh} (h : Zo F G n) (a : n.Edges.length≤400) : Fit n:=⟨⟨by have:=h.nlen;omega,q7⟩,.inl a⟩
theorem J7.fit {n : Qh} {l : List qr} (h : J7 n l) : Fit n:=qth h.net h.le
theorem qsu {l : List qr} {n : Qh} (b : l.length≤400) (a : ∀ s∈l,SegV s) (h : Zo (rowP l) (colP l) n) (hs : J7 n (Ja n)) (p : qa) : Zc (Ja n) p = Zc l p:=by
  have hb:=qey b a;have e:=qim hs.val p;have c:=qim a p;simp only [qfk hb h,qfj hb h] at e;rw [← c] at e;cases f : Zc (Ja n) p <;> cases d : Zc l p <;> simp_all
theorem qv7 {l m : List qr} {n : Qh} (d : m.length≤400) (j : ∀ s∈m,SegV s) (h : Zo (rowP l) (colP l) n) (e1 : rowP m = rowP l) (c : colP m = colP l) : J5 m = some (n,0)∧q8y m = some (n,0):=by
  rcases qlq d j with ⟨k,g,f,a⟩ | ⟨_,_,b⟩
  · rw [e1,c] at a;rw [h.uniq a];exact ⟨g,f⟩
  · rw [e1,c] at b;have:=b.not h.nodes;have:=h.nlen;omega
end Go.Sh
namespace Go.Sh
open Go Go.Am
open Classical
end Go.Sh
namespace Go.Sh
open Go Go.Am
def nxX (N : List qa) (i k : Nat) : Bool:=decide (i < k) && decide (k < N.length) && decide ((N[k]?).map (·.X) = (N[i]?).map (·.X)) && (List.range N.length).all fun j=>!(decide (i < j) && decide (j < k)) || !decide ((N[j]?).map (·.X) = (N[i]?).map (·.X))
def nxY (N : List qa) (i k : Nat) : Bool:=decide (i < k) && decide (k < N.length) && decide ((N[k]?).map (·.Y) = (N[i]?).map (·.Y)) && (List.range N.length).all fun j=>!(decide (i < j) && decide (j < k)) || !decide ((N[j]?).map (·.Y) = (N[i]?).map (·.Y))
theorem qvs {N : List qa} {i k : Nat} : nxX N i k = true↔Yz N i k:=by
  simp only [nxX,Bool.and_eq_true,decide_eq_true_eq,List.all_eq_true,List.mem_range,Bool.or_eq_true,Bool.not_eq_true',Bool.and_eq_false_iff,decide_eq_false_iff_not];constructor
  · rintro ⟨⟨⟨l,a⟩,f⟩,g⟩;have hi : i < N.length:=by omega
    rw [List.getElem?_eq_getElem a,List.getElem?_eq_getElem hi] at f;refine ⟨l,a,fun _ _=>Zg f,fun j _ b d c e=>?_⟩;rcases g j b with (h | h) | h
    · exact h d
    · exact h c
    · rw [List.getElem?_eq_getElem b,List.getElem?_eq_getElem hi] at h;exact h (congrArg some e)
  · rintro ⟨l,a,f,g⟩;have hi : i < N.length:=by omega
    refine ⟨⟨⟨l,a⟩,?_⟩,fun j b=>?_⟩
    · rw [List.getElem?_eq_getElem a,List.getElem?_eq_getElem hi];exact congrArg some (f hi a)
    · by_cases d : i < j
      · by_cases c : j < k
        · right;rw [List.getElem?_eq_getElem b,List.getElem?_eq_getElem hi];exact fun e=>g j hi b d c (Zg e)
        · exact .inl (.inr c)
      · exact .inl (.inl d)
theorem qvt {N : List qa} {i k : Nat} : nxY N i k = true↔Z4 N i k:=by
  simp only [nxY,Bool.and_eq_true,decide_eq_true_eq,List.all_eq_true,List.mem_range,Bool.or_eq_true,Bool.not_eq_true',Bool.and_eq_false_iff,decide_eq_false_iff_not];constructor
  · rintro ⟨⟨⟨l,a⟩,f⟩,g⟩;have hi : i < N.length:=by omega
    rw [List.getElem?_eq_getElem a,List.getElem?_eq_getElem hi] at f;refine ⟨l,a,fun _ _=>Zg f,fun j _ b d c e=>?_⟩;rcases g j b with (h | h) | h
    · exact h d
    · exact h c
    · rw [List.getElem?_eq_getElem b,List.getElem?_eq_getElem hi] at h;exact h (congrArg some e)
  · rintro ⟨l,a,f,g⟩;have hi : i < N.length:=by omega
    refine ⟨⟨⟨l,a⟩,?_⟩,fun j b=>?_⟩
    · rw [List.getElem?_eq_getElem a,List.getElem?_eq_getElem hi];exact congrArg some (f hi a)
    · by_cases d : i < j
      · by_cases c : j < k
        · right;rw [List.getElem?_eq_getElem b,List.getElem?_eq_getElem hi];exact fun e=>g j hi b d c (Zg e)
        · exact .inl (.inr c)
      · exact .inl (.inl d)
def rowB (l : List qr) (y x : Int) : Bool:=l.any fun s=>decide (s.A.Y = s.B.Y) && decide (s.A.Y = y) && decide (min s.A.X s.B.X≤x) && decide (x < max s.A.X s.B.X)
def colB (l : List qr) (x y : Int) : Bool:=l.any fun s=>!decide (s.A.Y = s.B.Y) && decide (s.A.X = x) && decide (min s.A.Y s.B.Y≤y) && decide (y < max s.A.Y s.B.Y)
theorem q9c {l : List qr} {y x : Int} : rowB l y x = true↔rowP l y x:=by
  rw [q2h];simp only [rowB,List.any_eq_true,Bool.and_eq_true,decide_eq_true_eq,and_assoc]
theorem q7q {l : List qr} {x y : Int} : colB l x y = true↔colP l x y:=by
  rw [q1x];simp only [colB,List.any_eq_true,Bool.and_eq_true,decide_eq_true_eq,Bool.not_eq_true',decide_eq_false_iff_not,and_assoc]
def edgB (l : List qr) (N : List qa) (i k : Nat) : Bool:=match N[i]? with
  | some p=>(nxX N i k && colB l p.X p.Y) || (nxY N i k && rowB l p.Y p.X)
  | none=>false
theorem qju {l : List qr} {N : List qa} {i k : Nat} : edgB l N i k = true↔q46 (rowP l) (colP l) N i k:=by
  unfold edgB q46;by_cases hi : i < N.length
  · simp only [List.getElem?_eq_getElem hi,Bool.or_eq_true,Bool.and_eq_true,qvs,qvt,q9c,q7q];exact ⟨fun h=>⟨hi,h⟩,fun ⟨_,h⟩=>h⟩
  · rw [List.getElem?_eq_none q7];exact ⟨fun h=>(by cases h),fun ⟨h,_⟩=>absurd h hi⟩
instance (a b : qj) : Decidable (ltG a b):=by unfold ltG;exact inferInstance
def srtG : List qj→Bool
  | []=>true
  | a::r=>(r.all fun b=>decide (ltG a b)) && srtG r
def srtP : List qa→Bool
  | []=>true
  | a::r=>(r.all fun b=>decide (ltP a b)) && srtP r
theorem qos : ∀ {l : List qj},srtG l = true→l.Pairwise ltG
  | [],_=>.nil
  | a::r,h=>by
    simp only [srtG,Bool.and_eq_true,List.all_eq_true,decide_eq_true_eq] at h
    exact List.pairwise_cons.2 ⟨h.1,qos h.2⟩
theorem qot : ∀ {l : List qa},srtP l = true→l.Pairwise ltP
  | [],_=>.nil
  | a::r,h=>by
    simp only [srtP,Bool.and_eq_true,List.all_eq_true,decide_eq_true_eq] at h
    exact List.pairwise_cons.2 ⟨h.1,qot h.2⟩
def qfl (l : List qr) (n : Qh) : Bool:=srtG n.Edges && (n.Edges.all fun e=>decide (0≤e.A) && decide (0≤e.B) && edgB l n.Nodes e.A.toNat e.B.toNat) && (List.range n.Nodes.length).all fun i=>(List.range n.Nodes.length).all fun k=>!edgB l n.Nodes i k || n.Edges.any fun e=>decide (e = {A:=(i : Int),B:=(k : Int)})
theorem qsw {l : List qr} {n : Qh} (h : qfl l n = true) : q3r (rowP l) (colP l) n.Nodes n.Edges:=by
  simp only [qfl,Bool.and_eq_true,List.all_eq_true,decide_eq_true_eq,List.mem_range,Bool.or_eq_true,Bool.not_eq_true',List.any_eq_true] at h;obtain ⟨⟨j,g⟩,o⟩:=h;refine ⟨qos j,fun e=>⟨fun d=>?_,?_⟩⟩
  · obtain ⟨⟨a,b⟩,c⟩:=g e d;refine ⟨e.A.toNat,e.B.toNat,?_,qju.1 c⟩;obtain ⟨q,p⟩:=e;simp only [qj.mk.injEq] at a b ⊢;omega
  · rintro ⟨i,k,rfl,d⟩;have hi : i < n.Nodes.length:=d.1;have hk : k < n.Nodes.length:=by obtain ⟨_,⟨h,_⟩ | ⟨h,_⟩⟩:=d <;> exact h.hk
    rcases o i hi k hk with f | ⟨e,m,rfl⟩
    · rw [qju.2 d] at f;cases f
    · exact m
def qdk (l : List qr) (p : qa) : Bool:=q38 (rowB l p.Y p.X) (colB l p.X p.Y) (rowB l p.Y (p.X - 1)) (colB l p.X (p.Y - 1))
open Classical in
theorem qmg {l : List qr} {p : qa} : qdk l p = true↔Kv (rowP l) (colP l) p.X p.Y:=by
  unfold qdk Kv
  have e : ∀ {b : Bool} {P : Prop},(b = true↔P)→b = decide P:=by
    intro b P h;cases b
    · symm;exact Q4 (fun hp=>by have:=h.2 hp;cases this)
    · symm;exact Q2 (h.1 rfl)
  rw [e q9c,e q7q,e q9c,e q7q]
def qiw (l : List qr) : List qa:=l.flatMap (fun s=>[s.A,s.B]) ++ l.flatMap fun h=>l.map fun v=>({X:=v.A.X,Y:=h.A.Y} : qa)
def qgp (l : List qr) (N : List qa) : Bool:=srtP N && (N.all fun p=>qdk l p) && (qiw l).all fun p=>!qdk l p || N.any fun q=>decide (q = p)
theorem qvo {l : List qr} {N : List qa} (m : ∀ s∈l,SegV s) (h : qgp l N = true) : Yg (rowP l) (colP l) N:=by
  simp only [qgp,Bool.and_eq_true,List.all_eq_true,Bool.or_eq_true,Bool.not_eq_true',List.any_eq_true,decide_eq_true_eq] at h;obtain ⟨⟨n,d⟩,g⟩:=h;refine ⟨qot n,fun p=>⟨fun hp=>qmg.1 (d p hp),fun b=>?_⟩⟩
  have o : p∈qiw l:=by
    rcases qlv.1 (qgn m b) with ⟨s,hs,k⟩ | ⟨h,f,_,v,a,_,rfl⟩
    · exact List.mem_append_left _ (List.mem_flatMap.2 ⟨s,hs,by rcases k with rfl | rfl <;> simp⟩)
    · exact List.mem_append_right _ (List.mem_flatMap.2 ⟨h,f,List.mem_map.2 ⟨v,a,rfl⟩⟩)
  rcases g p o with c | ⟨q,j,rfl⟩
  · rw [qmg.2 b] at c;cases c
  · exact j
def ptB (p : qa) : Bool:=decide (-1000000≤p.X) && decide (p.X≤1000000) && decide (-1000000≤p.Y) && decide (p.Y≤1000000)
def segB (s : qr) : Bool:=ptB s.A && ptB s.B && (decide (s.A.X = s.B.X) != decide (s.A.Y = s.B.Y))
theorem q117 {s : qr} (h : segB s = true) : SegV s:=by
  simp only [segB,ptB,Bool.and_eq_true,decide_eq_true_eq,bne_iff_ne,ne_eq,decide_eq_decide] at h;obtain ⟨⟨⟨⟨⟨b,d⟩,g⟩,a⟩,⟨⟨b1,b2⟩,j⟩,f⟩,c⟩:=h;refine ⟨⟨b,d,g,a⟩,⟨b1,b2,j,f⟩,?_⟩;by_cases e1 : s.A.X = s.B.X <;> by_cases k : s.A.Y = s.B.Y <;> simp [e1,k] at c ⊢
def netB (l : List qr) (n : Qh) : Bool:=l.all segB && decide (l.length≤24) && qgp l n.Nodes && qfl l n
theorem q8h {l : List qr} {n : Qh} (h : netB l n = true) : (∀ s∈l,SegV s)∧l.length≤24∧Zo (rowP l) (colP l) n∧J7 n (Ja n)∧J5 l = some (n,0):=by
  simp only [netB,Bool.and_eq_true,List.all_eq_true,decide_eq_true_eq] at h;obtain ⟨⟨⟨q,k⟩,o⟩,p⟩:=h;have j : ∀ s∈l,SegV s:=fun s hs=>q117 (q s hs);obtain ⟨m,e1,_,g,hs,_⟩:=qlo k j;have f : m.Nodes = n.Nodes:=qmh g.nodes (qvo j o);have O : m.Edges = n.Edges:=qjw (by rw [← f];exact g.edges) (qsw p)
  have : m = n:=by
    obtain ⟨a,b⟩:=m;obtain ⟨c,d⟩:=n;simp only at f O;rw [f,O]
  subst this;exact ⟨j,k,g,hs,e1⟩
end Go.Sh
namespace Go.Sh
open Go Go.Am
open Classical
theorem qke (p : qa) : q42 p = some (decide (PtB p)):=by
  unfold q42;by_cases h : PtB p
  · have a:=h;unfold PtB at a;rw [Q2 h,Qb q7,Qb q7,Q2 (show max (max (max p.X (0 - p.X)) p.Y) (0 - p.Y)≤1000000 by omega),Q1,Q2 (show min p.X p.Y ≥ -1000000 by omega)];rfl
  · have a:=h;unfold PtB at a;rw [Q4 h];by_cases b : (max (max (max p.X (w64 (0 - p.X))) p.Y) (w64 (0 - p.Y)))≤1000000
    · rw [Q2 b,Q1,Q4 (show ¬ min p.X p.Y ≥ -1000000 by omega)];rfl
    · rw [Q4 b];rfl
def dirs : List qa:=[{X:=1,Y:=0},{X:=0,Y:=1},{X:=(-1),Y:=0},{X:=0,Y:=(-1)}]
theorem qk8 : q57 [] = some 0:=by
  unfold q57;have : loop (qcw []) 0 = some (.inl ()):=Ki rfl;rw [this];rfl
theorem qtb (p : qa) : q7z [] p = some 2:=by
  unfold q7z qcx;have : loop (qcy [] p) (0,0) = some 0:=Ki rfl;rw [this];rfl
theorem qpa {p : qa} {h : Nat} {d : qa} (g : h < 4) (hd : dirs[h]? = some d) (hp : PtB p) (f : PtB {X:=p.X + d.X,Y:=p.Y + d.Y}) : q41 [] p (h : Int) 1 = some ([p,{X:=p.X + d.X,Y:=p.Y + d.Y}],0):=by
  have b:=f;unfold PtB at b;simp only at b
  have c : idxA 4 dirs (h : Int) = some d:=by
    unfold idxA;simp only [Int.toNat_natCast]
    first
      | (rw [Q0 q7];exact hd)
      | (rw [Q0 ⟨q7,q7⟩];exact hd)
      | simp [hd,g]
  have s0 : q58 1 [] ((h : Int),0,p.X,p.Y,[p]) = some (.inl ((h : Int),1,p.X + d.X,p.Y + d.Y,[p,{X:=p.X + d.X,Y:=p.Y + d.Y}])):=by
    unfold q58;have a : idxA 4 [({X:=1,Y:=0} : qa),({X:=0,Y:=1} : qa),({X:=(-1),Y:=0} : qa),({X:=0,Y:=(-1)} : qa)] (h : Int) = some d:=c;have c0 : decide ((0 : Int) < 1) = true:=rfl;have c2 : decide ((2 : Int) < 2) = false:=rfl;simp only [c0,Q1,qtb,qn,c2,qz,a];rw [Qb (x:=p.X + d.X) q7,Qb (x:=p.Y + d.Y) q7,qke,Q2 f];rfl
  have s1 : q58 1 [] ((h : Int),1,p.X + d.X,p.Y + d.Y,[p,{X:=p.X + d.X,Y:=p.Y + d.Y}]) = some (.inr (.inl [p,{X:=p.X + d.X,Y:=p.Y + d.Y}])):=rfl;unfold q41;have e0 : ((0 : Int) != 0) = false:=rfl;rw [qk8,qn,e0,qz,qke,Q2 hp,qn,Bool.not_true,qz,qn,Q4 (show ¬ (h : Int) > 3 by omega),qz,qn];have c1 : decide ((1 : Int) < 0) = false:=rfl;have c3 : decide ((1 : Int) > 500) = false:=rfl;rw [c1,qz,qn,c3,qz,Kg s0,Ki s1];rfl
theorem qjp {h : Nat} {d : qa} (b : h < 4) (hd : dirs[h]? = some d) : q9i dirs d = some (h : Int):=by
  have nx : ∀ (d : qa) (k : Nat) (e : qa),dirs[k]? = some e→k < 4→e≠d→q2k dirs d (k : Int) = some (.inl ((k + 1 : Nat) : Int)):=by
    intro d k e c hk f;unfold q2k;rw [Q2 (show (k : Int) < (dirs.length : Int) by have : dirs.length = 4:=rfl;omega),Q1];have : idx dirs (k : Int) = some e:=by unfold idx;simp [c]
    rw [this,qn,beqP,Q4 (fun h=>f h.symm),qz,Qb q7];rfl
  have fd : ∀ (d : qa) (k : Nat),dirs[k]? = some d→k < 4→q2k dirs d (k : Int) = some (.inr (.inr (k : Int))):=by
    intro d k c hk;unfold q2k;rw [Q2 (show (k : Int) < (dirs.length : Int) by have : dirs.length = 4:=rfl;omega),Q1];have : idx dirs (k : Int) = some d:=by unfold idx;simp [c]
    rw [this,qn,beqP,Q2 rfl,Q1]
  have key : loop (q2k dirs d) ((0 : Nat) : Int) = some (.inr (h : Int)):=by
    have : h = 0∨h = 1∨h = 2∨h = 3:=by omega
    rcases this with rfl | rfl | rfl | rfl
    · exact Ki (fd d 0 hd b)
    · cases hd;rw [Kg (nx _ 0 _ rfl q7 qy)];exact Ki (fd _ 1 rfl b)
    · cases hd;rw [Kg (nx _ 0 _ rfl q7 qy),Kg (nx _ 1 _ rfl q7 qy)];exact Ki (fd _ 2 rfl b)
    · cases hd;rw [Kg (nx _ 0 _ rfl q7 qy),Kg (nx _ 1 _ rfl q7 qy),Kg (nx _ 2 _ rfl q7 qy)];exact Ki (fd _ 3 rfl b)
  have a : loop (q2k dirs d) 0 = some (.inr (h : Int)):=key;unfold q9i;rw [a];rfl
end Go.Sh
namespace Go.Sh
open Go Go.Am
def qee (w : Yu) (h k : Nat) (vis : List (qa × Bool)) (segs : List qr) (p q : qa) : Option ((Int × Int × (List (qa × Bool)) × List qr × Int × Int) ⊕ (((List (qa × Bool)) × List qr) ⊕ (Int × (List (qa × Bool)) × List qr))):=
  (cond (K7 false q vis) (some true) (some ((q.X == w.At.X) && ((q.Y == w.At.Y) && true)))).bind fun c=>cond c (some (.inr (.inl (Ka q true (Ka p true vis),segs)))) (some (.inl ((h : Int),((k + 1 : Nat) : Int),Ka q true (Ka p true vis),segs,q.X,q.Y)))
theorem qpe (w : Yu) {h : Nat} {d : qa} (n : h < 4) (hd : dirs[h]? = some d) (hk : 0 < w.Steps) (p : qa) (hp : PtB p) (o : PtB {X:=p.X + d.X,Y:=p.Y + d.Y}) (l : List (qa × Bool)) (c : List qr) (hs : c.length < 400) :
    Zx w [] ((h : Int),0,l,c,p.X,p.Y) = qee w h 0 l (c ++ [{A:=p,B:={X:=p.X + d.X,Y:=p.Y + d.Y}}]) p {X:=p.X + d.X,Y:=p.Y + d.Y}:=by
  have hp':=hp;have k:=o;unfold PtB at hp' k;simp only at k;have r:=qpa n hd hp o
  have q : ({X:=w64 (p.X + d.X - p.X),Y:=w64 (p.Y + d.Y - p.Y)} : qa) = d:=by
    rw [Qb q7,Qb q7];obtain ⟨a,b⟩:=d;simp only [qa.mk.injEq];omega
  have f : IntKind.wrap .u8 (h : Int) = (h : Int):=by
    have : h = 0∨h = 1∨h = 2∨h = 3:=by omega
    rcases this with rfl | rfl | rfl | rfl <;> rfl
  have g:=qjp n hd;unfold dirs at g;have e0 : ((0 : Int) != 0) = false:=rfl;have j : ∀ a b : qa,idx [a,b] 1 = some b:=fun a b=>rfl;have s : decide ((0 : Int) > 0) = false:=rfl;unfold Zx qee;simp only [Q2 hk,Q1];have m : q41 [] ({X:=p.X,Y:=p.Y} : qa) (h : Int) 1 = some ([p,{X:=p.X + d.X,Y:=p.Y + d.Y}],0):=r;simp only [m,qn,e0,qz,j,q,g,s,f];rw [Y9 (by simp;omega)];simp only [qn];rw [Q4 (show ¬ (((c ++ [({A:={X:=p.X,Y:=p.Y},B:={X:=p.X + d.X,Y:=p.Y + d.Y}} : qr)]).length : Int) > 400) by simp;omega),qz];simp only [qn];rw [Qb q7];rfl
theorem qej (w : Yu) {h : Nat} {d : qa} (t : h < 4) (hd : dirs[h]? = some d) {k : Nat} (ab : 0 < k) (hk : (k : Int) < w.Steps) (y : k≤1000) (p : qa) (hp : PtB p) (v : PtB {X:=p.X + d.X,Y:=p.Y + d.Y}) (o : List (qa × Bool)) (c : List qr) (s : qr) (hs : c.length≤400) :
    Zx w [] ((h : Int),(k : Int),o,c ++ [s],p.X,p.Y) = qee w h k o (c ++ [{A:=s.A,B:={X:=p.X + d.X,Y:=p.Y + d.Y}}]) p {X:=p.X + d.X,Y:=p.Y + d.Y}:=by
  have hp':=hp;have n:=v;unfold PtB at hp' n;simp only at n;have z:=qpa t hd hp v
  have x : ({X:=w64 (p.X + d.X - p.X),Y:=w64 (p.Y + d.Y - p.Y)} : qa) = d:=by
    rw [Qb q7,Qb q7];obtain ⟨a,b⟩:=d;simp only [qa.mk.injEq];omega
  have g : IntKind.wrap .u8 (h : Int) = (h : Int):=by
    have : h = 0∨h = 1∨h = 2∨h = 3:=by omega
    rcases this with rfl | rfl | rfl | rfl <;> rfl
  have j:=qjp t hd;unfold dirs at j;have e0 : ((0 : Int) != 0) = false:=rfl;have l : ∀ a b : qa,idx [a,b] 1 = some b:=fun a b=>rfl;have hg : decide ((k : Int) > 0) = true:=Q2 q7;have q : w64 (((c ++ [s]).length : Int) - 1) = (c.length : Int):=by rw [Qb (by simp;omega)];simp
  have f : idx (c ++ [s]) (c.length : Int) = some s:=by rw [Qu qb];simp
  unfold Zx qee;simp only [Q2 hk,Q1];have r : q41 [] ({X:=p.X,Y:=p.Y} : qa) (h : Int) 1 = some ([p,{X:=p.X + d.X,Y:=p.Y + d.Y}],0):=z;simp only [r,qn,e0,qz,l,x,j,hg,g,Q1,beq_self_eq_true,q,f,Int.toNat_natCast];have m : ∀ u : qr,(c ++ [s]).set c.length u = c ++ [u]:=by intro u;simp
  simp only [m];rw [Qb q7];rfl
end Go.Sh
namespace Go.Sh
open Go Go.Am
abbrev pq (x y : Int) : qa:={X:=x,Y:=y}
abbrev sg (a b c d : Int) : qr:={A:=pq a b,B:=pq c d}
abbrev ed (a b : Int) : qj:={A:=a,B:=b}
def n4 : Qh:={Nodes:=[pq 0 0,pq 2 0,pq 2 3,pq 4 0],Edges:=[ed 0 1,ed 1 2,ed 1 3]}
def n5 : Qh:={Nodes:=[pq 0 0,pq 2 (-1),pq 2 0,pq 2 3,pq 4 0],Edges:=[ed 0 2,ed 1 2,ed 2 3,ed 2 4]}
def n6 : Qh:={Nodes:=[pq 0 0,pq 2 0,pq 2 2,pq 4 0],Edges:=[ed 0 1,ed 1 2,ed 1 3]}
def n2 : Qh:={Nodes:=[pq 0 0,pq 4 0],Edges:=[ed 0 1]}
theorem net4 : netB [sg 0 0 4 0,sg 2 0 2 3] n4 = true:=by decide +kernel
theorem net5 : netB [sg 0 0 4 0,sg 2 3 2 0,sg 2 (-1) 2 0] n5 = true:=by decide +kernel
theorem net6 : netB [sg 0 0 4 0,sg 2 2 2 0] n6 = true:=by decide +kernel
theorem net2 : netB [sg 0 0 2 0,sg 2 0 4 0] n2 = true:=by decide +kernel
theorem qlr {l : List qr} {n : Qh} (h : netB l n = true) : q5f n l = some true:=by
  obtain ⟨_,_,b,hs,e⟩:=q8h h;obtain ⟨c1,_,_,_⟩:=qhu hs.fit hs;unfold q5f;have a:=qe2 n n (by have:=hs.fit.1.1;omega) (by have:=hs.fit.1.2;omega);simp only [e,qn,a,decide_true,c1,beq_self_eq_true,Q1]
open Classical in
theorem qjn (l : List qr) (p : qa) : degN l p = b2z (rowB l p.Y p.X) + b2z (colB l p.X p.Y) + b2z (rowB l p.Y (p.X - 1)) + b2z (colB l p.X (p.Y - 1)):=by
  have e : ∀ {b : Bool} {P : Prop},(b = true↔P)→decide P = b:=by
    intro b P h;cases b
    · exact Q4 (fun hp=>by have:=h.2 hp;cases this)
    · exact Q2 (h.1 rfl)
  unfold degN;rw [e q9c,e q7q,e q9c,e q7q]
theorem qjo {l : List qr} {n : Qh} (h : netB l n = true) {i : Nat} (hi : i < n.Nodes.length) : q2o n (i : Int) = some (degN l n.Nodes[i],0):=by
  obtain ⟨c,f,a,hs,e⟩:=q8h h;have hb:=qey (show l.length≤400 by omega) c;rw [(qro hs.fit hs hi).1];have d : rowP (Ja n) = rowP l:=by funext y x;exact propext (qfk hb a y x)
  have b : colP (Ja n) = colP l:=by funext y x;exact propext (qfj hb a y x)
  unfold degN;rw [d,b]
def w1 : Yu:={At:=pq 0 0,Head:=0,Steps:=4}
def w2 : Yu:={At:=pq 2 2,Head:=3,Steps:=9}
def V4 : List (qa × Bool):=[(pq 0 0,true),(pq 1 0,true),(pq 2 0,true),(pq 3 0,true),(pq 4 0,true)]
theorem pb {x y : Int} (h : -1000≤x∧x≤1000∧-1000≤y∧y≤1000) : PtB {X:=x,Y:=y}:=by unfold PtB;simp only;omega
theorem q13q : q4x [] w1 [] [] = some (0,V4,[sg 0 0 4 0]):=by
  have s0 : Zx w1 [] (0,0,[],[],0,0) = some (.inl (0,1,[(pq 0 0,true),(pq 1 0,true)],[sg 0 0 1 0],1,0)):=(qpe w1 (h:=0) (d:=pq 1 0) q7 rfl qy (pq 0 0) (pb qy) (pb qy) [] [] qb).trans rfl;have s1 : Zx w1 [] (0,1,[(pq 0 0,true),(pq 1 0,true)],[sg 0 0 1 0],1,0) = some (.inl (0,2,[(pq 0 0,true),(pq 1 0,true),(pq 2 0,true)],[sg 0 0 2 0],2,0)):=(qej w1 (h:=0) (d:=pq 1 0) q7 rfl (k:=1) q7 qy q7 (pq 1 0) (pb qy) (pb qy) [(pq 0 0,true),(pq 1 0,true)] [] (sg 0 0 1 0) qb).trans rfl;have c : Zx w1 [] (0,2,[(pq 0 0,true),(pq 1 0,true),(pq 2 0,true)],[sg 0 0 2 0],2,0) = some (.inl (0,3,[(pq 0 0,true),(pq 1 0,true),(pq 2 0,true),(pq 3 0,true)],[sg 0 0 3 0],3,0)):=(qej w1 (h:=0) (d:=pq 1 0) q7 rfl (k:=2) q7 qy q7 (pq 2 0) (pb qy) (pb qy) [(pq 0 0,true),(pq 1 0,true),(pq 2 0,true)] [] (sg 0 0 2 0) qb).trans rfl;have a : Zx w1 [] (0,3,[(pq 0 0,true),(pq 1 0,true),(pq 2 0,true),(pq 3 0,true)],[sg 0 0 3 0],3,0) = some (.inl (0,4,V4,[sg 0 0 4 0],4,0)):=(qej w1 (h:=0) (d:=pq 1 0) q7 rfl (k:=3) q7 qy q7 (pq 3 0) (pb qy) (pb qy) [(pq 0 0,true),(pq 1 0,true),(pq 2 0,true),(pq 3 0,true)] [] (sg 0 0 3 0) qb).trans rfl;have b : Zx w1 [] (0,4,V4,[sg 0 0 4 0],4,0) = some (.inr (.inl (V4,[sg 0 0 4 0]))):=rfl;unfold q4x;show (loop (Zx w1 []) (0,0,[],[],0,0)).bind _ = _;rw [Kg s0,Kg s1,Kg c,Kg a,Ki b];rfl
theorem q13r : ∃ V,q4x [] w2 [sg 0 0 4 0] V4 = some (0,V,[sg 0 0 4 0,sg 2 2 2 0]):=by
  have s0 : Zx w2 [] (3,0,V4,[sg 0 0 4 0],2,2) = some (.inl (3,1,V4 ++ [(pq 2 2,true),(pq 2 1,true)],[sg 0 0 4 0,sg 2 2 2 1],2,1)):=(qpe w2 (h:=3) (d:=pq 0 (-1)) q7 rfl qy (pq 2 2) (pb qy) (pb qy) V4 [sg 0 0 4 0] qb).trans rfl;have s1 : Zx w2 [] (3,1,V4 ++ [(pq 2 2,true),(pq 2 1,true)],[sg 0 0 4 0,sg 2 2 2 1],2,1) = some (.inr (.inl (V4 ++ [(pq 2 2,true),(pq 2 1,true)],[sg 0 0 4 0,sg 2 2 2 0]))):=(qej w2 (h:=3) (d:=pq 0 (-1)) q7 rfl (k:=1) q7 qy q7 (pq 2 1) (pb qy) (pb qy) (V4 ++ [(pq 2 2,true),(pq 2 1,true)]) [sg 0 0 4 0] (sg 2 2 2 1) qb).trans rfl;refine ⟨V4 ++ [(pq 2 2,true),(pq 2 1,true)],?_⟩;unfold q4x;show (loop (Zx w2 []) (3,0,V4,[sg 0 0 4 0],2,2)).bind _ = _;rw [Kg s0,Ki s1];rfl
theorem qtt : qbv [] [w1,w2] = some (n6,0):=by
  obtain ⟨V,j⟩:=q13r;have c : q77 [w1,w2] 0 = some (.inl 1):=rfl;have f : q77 [w1,w2] 1 = some (.inl 2):=rfl;have g : q77 [w1,w2] 2 = some (.inr (.inl ())):=rfl;have e0 : ((0 : Int) != 0) = false:=rfl
  have d : q3h [w1,w2] [] (0,[],[]) = some (.inl (1,[sg 0 0 4 0],V4)):=by
    unfold q3h;have b : decide ((0 : Int) < (([w1,w2] : List Yu).length : Int)) = true:=rfl;have a : idx [w1,w2] 0 = some w1:=rfl;simp only [b,Q1,a,qn,q13q,e0,qz];rfl
  have b1 : q3h [w1,w2] [] (1,[sg 0 0 4 0],V4) = some (.inl (2,[sg 0 0 4 0,sg 2 2 2 0],V)):=by
    unfold q3h;have b : decide ((1 : Int) < (([w1,w2] : List Yu).length : Int)) = true:=rfl;have a : idx [w1,w2] 1 = some w2:=rfl;simp only [b,Q1,a,qn,j,e0,qz];rfl
  have b2 : q3h [w1,w2] [] (2,[sg 0 0 4 0,sg 2 2 2 0],V) = some (.inr (.inl [sg 0 0 4 0,sg 2 2 2 0])):=rfl;unfold qbv;have h : decide ((([w1,w2] : List Yu).length : Int) > 30) = false:=rfl;rw [qk8,qn,e0,qz,h,qz,Kg c,Kg f,Ki g];simp only [qn];rw [Kg d,Kg b1,Ki b2];simp only [qn];rw [(q8h net6).2.2.2.2];rfl
theorem qtz : q8x n5.Nodes (pq 2 0) = some 2:=by
  have b : q5w n5.Nodes (pq 2 0) 0 = some (.inl 1):=rfl;have a : q5w n5.Nodes (pq 2 0) 1 = some (.inl 2):=rfl;have c : q5w n5.Nodes (pq 2 0) 2 = some (.inr (.inr 2)):=rfl;unfold q8x;rw [Kg b,Kg a,Ki c];rfl
theorem len4 : q78 n4 = some (7,0):=by
  obtain ⟨_,_,f,hs,_⟩:=q8h net4;obtain ⟨a,c,e1,_,b,h⟩:=qun hs.fit;have d:=h _ hs;obtain ⟨c1,_,_,_⟩:=qhu hs.fit hs;rw [b] at c1;cases c1;have : Yv (Ja n4) = 7:=by rfl
  rw [e1,d,this]
theorem q7m : q47 = some true:=by
  have d : q2o n4 1 = some (3,0):=by
    have:=qjo net4 (i:=1) qy;rw [qjn] at this;exact this
  have k : q2o n5 2 = some (4,0):=by
    have:=qjo net5 (i:=2) qy;rw [qjn] at this;exact this
  have l:=(q8h net5).2.2.2.2;have g:=qlr net4;have c:=qlr net2;have j:=qtz;have b:=len4;have f:=qtt;have a:=qe2 n6 n6 qy qy;unfold n4 at d g b;unfold w1 w2 at f;unfold n2 at c;unfold q47;simp only [Ya,q1m,qn,d,b,l,j,k,f,g,c,beq_self_eq_true,Q1]
  have h : q2g n6 {Nodes:=[{X:=0,Y:=0},{X:=2,Y:=0},{X:=2,Y:=2},{X:=4,Y:=0}],Edges:=[{A:=0,B:=1},{A:=1,B:=2},{A:=1,B:=3}]} = some true:=by
    have:=a;rw [Q2 rfl] at this;exact this
  rw [h];rfl
end Go.Sh
namespace Go.Sh
open Go Go.Am
theorem quh {α : Type} {l : List α} (h : l.length≤maxLen) : Len64 l:=by
  have : maxLen≤9223372036854775807:=by decide
  unfold Len64;omega
end Go.Sh
namespace Go.Sh
open Go Go.Am
open Classical
theorem qjm {α : Type} {P : α→Prop} {l : List α} {i : Nat} (hi : i < l.length) {a b : α} (h : P a∨P b↔P l[i]) : (∃ t∈a::l.set i b,P t)↔∃ t∈l,P t:=by
  constructor
  · rintro ⟨t,c,hp⟩;rcases List.mem_cons.1 c with rfl | c
    · exact ⟨_,Ke hi,h.1 (.inl hp)⟩
    · rcases List.mem_or_eq_of_mem_set c with f | rfl
      · exact ⟨t,f,hp⟩
      · exact ⟨_,Ke hi,h.1 (.inr hp)⟩
  · rintro ⟨t,c,hp⟩;obtain ⟨j,d,rfl⟩:=List.mem_iff_getElem.1 c;by_cases e : j = i
    · subst e;rcases h.2 hp with hp | hp
      · exact ⟨a,qb,hp⟩
      · exact ⟨b,List.mem_cons_of_mem _ (List.mem_iff_getElem.2 ⟨j,by simpa using d,qb⟩),hp⟩
    · exact ⟨l[j],List.mem_cons_of_mem _ (List.mem_iff_getElem.2 ⟨j,by simpa using d,by rw [List.getElem_set_ne (fun h=>e h.symm)]⟩),hp⟩
theorem qrk {l : List qr} {i : Nat} (hi : i < l.length) (k : ∀ s∈l,SegV s) {f : qa} (n : J3 l[i] f) (m : f≠l[i].A) (o : f≠l[i].B) :
    (∀ t∈({A:=l[i].A,B:=f} : qr)::l.set i {A:=f,B:=l[i].B},SegV t)∧rowP (({A:=l[i].A,B:=f} : qr)::l.set i {A:=f,B:=l[i].B}) = rowP l∧colP (({A:=l[i].A,B:=f} : qr)::l.set i {A:=f,B:=l[i].B}) = colP l:=by
  have hs:=k _ (Ke hi);obtain ⟨v,b1,u⟩:=hs
  have j : ∀ p q : qa,p≠q→p.X = q.X→p.Y≠q.Y:=by
    rintro ⟨a,b⟩ ⟨c,d⟩ h rfl rfl;exact h rfl
  have r:=j _ _ m;have w:=j _ _ o;unfold J3 at n;refine ⟨fun t g=>?_,?_,?_⟩
  · rcases List.mem_cons.1 g with rfl | g
    · exact ⟨by simp only;omega,by simp only;omega,by simp only;omega⟩
    · rcases List.mem_or_eq_of_mem_set g with h | rfl
      · exact k t h
      · exact ⟨by simp only;omega,by simp only;omega,by simp only;omega⟩
  · funext y x;apply propext;rw [q2h,q2h];refine qjm (P:=fun s : qr=>s.A.Y = s.B.Y∧s.A.Y = y∧min s.A.X s.B.X≤x∧x < max s.A.X s.B.X) hi ?_;simp only;omega
  · funext x y;apply propext;rw [q1x,q1x];refine qjm (P:=fun s : qr=>s.A.Y≠s.B.Y∧s.A.X = x∧min s.A.Y s.B.Y≤y∧y < max s.A.Y s.B.Y) hi ?_;simp only;omega
theorem qps {l m : List qr} (h : ∀ s∈l,s∈m) {p : qa} (hp : Zc l p = true) : Zc m p = true:=by
  unfold Zc at hp ⊢;rw [List.any_eq_true] at hp ⊢;obtain ⟨s,hs,a⟩:=hp;exact ⟨s,h s hs,a⟩
theorem q11c {α : Type} (l : List α) {i : Nat} (h : i≤l.length) : slc l 0 (i : Int) = some (l.take i):=by
  unfold slc;rw [Q0 q7];simp
theorem q11d {α : Type} (l : List α) {i : Nat} (h : i≤l.length) : slc l (i : Int) (l.length : Int) = some (l.drop i):=by
  unfold slc;rw [Q0 q7];simp only [Int.toNat_natCast];rw [List.take_of_length_le qb]
theorem qkt {l : List qr} (h : l.length≤24) (f : ∀ s∈l,SegV s) (p : qa) : ∃ n,J5 l = some (n,0)∧Zo (rowP l) (colP l) n∧q4s n p = some (Zc l p,0)∧n.Nodes.length≤1000∧n.Edges.length≤1000:=by
  obtain ⟨n,e1,_,a,hs,_⟩:=qlo h f;obtain ⟨b,c,d,_,_,g⟩:=qg3 hs.fit p;obtain ⟨rfl,rfl⟩:=g _ hs;rw [qsu q7 f a hs] at d;exact ⟨n,e1,a,d,by have:=hs.fit.1.1;have:=a.nlen;omega,hs.fit.1.2⟩
theorem q14f (l : List qr) (r a : Int) (p : qa) (h : l.length≤maxLen) : qd7 l r a p = some true:=by
  unfold qd7;rw [qv4 l (quh h),qn];by_cases f : ((∀ s∈l,SegV s)∧l.length≤24)∧l.length < 24∧0≤r∧r < l.length
  case neg=>
    have : (cond (!decide ((∀ s∈l,SegV s)∧l.length≤24)) (some true) (some (decide ((l.length : Int) ≥ 24)))).bind (fun c3=>(cond c3 (some true) (some (decide (r < 0)))).bind fun x=>(cond x (some true) (some (decide (r ≥ (l.length : Int)))))) = some true:=by
      by_cases q : (∀ s∈l,SegV s)∧l.length≤24
      · rw [Q2 q,Bool.not_true,qz,qn];by_cases u : (l.length : Int) ≥ 24
        · rw [Q2 u];rfl
        · rw [Q4 u,qz,qn];by_cases v : r < 0
          · rw [Q2 v];rfl
          · rw [Q4 v,qz]
            rw [Q2 (show r ≥ (l.length : Int) by
              have : ¬ (l.length < 24∧0≤r∧r < l.length):=fun h=>f ⟨q,h⟩
              omega)]
      · rw [Q4 q];rfl
    simp only [← Option.bind_assoc] at this ⊢;rw [this,qn,Q1,q7m];rfl
  case pos=>
  obtain ⟨⟨f,_⟩,hl,h0,q⟩:=f;obtain ⟨i,rfl⟩ : ∃ i : Nat,r = i:=⟨r.toNat,q7⟩
  have hi : i < l.length:=by omega
  have c0 : decide ((∀ s∈l,SegV s)∧l.length≤24) = true:=Q2 ⟨f,q7⟩;have c1 : decide ((l.length : Int) ≥ 24) = false:=Q4 q7;have c2 : decide ((i : Int) < 0) = false:=Q4 q7;have c3 : decide ((i : Int) ≥ (l.length : Int)) = false:=Q4 q7;have hw : w64 ((i : Int) + 1) = ((i + 1 : Nat) : Int):=by rw [Qb q7];rfl
  have c : ∀ s∈l.take i ++ l.drop (i + 1),s∈l:=by
    intro s hs;rcases List.mem_append.1 hs with h | h
    · exact List.mem_of_mem_take h
    · exact List.mem_of_mem_drop h
  obtain ⟨n,e1,hn,e2,n1,n2⟩:=qkt (l:=l) q7 f p;obtain ⟨m,e3,hm,e4,_⟩:=qkt (l:=l.take i ++ l.drop (i + 1)) (by simp;omega) (fun s hs=>f s (c s hs)) p;have e0 : ((0 : Int) != 0) = false:=rfl
  have g : (cond (Zc (l.take i ++ l.drop (i + 1)) p) (some (!Zc l p)) (some false)) = some false:=by
    cases h : Zc (l.take i ++ l.drop (i + 1)) p
    · rfl
    · rw [Q1,qps c h];rfl
  have k1 : slc l 0 (i : Int) = some (l.take i):=q11c l q7;have k2 : slc l ((i + 1 : Nat) : Int) (l.length : Int) = some (l.drop (i + 1)):=q11d l hi;have y : app 32 [] (l.take i) = some (l.take i):=by rw [Y9 (by simp;omega)];rfl
  have k4 : app 32 (l.take i) (l.drop (i + 1)) = some (l.take i ++ l.drop (i + 1)):=Y9 (by simp;omega);have d:=qe2 n n q7 q7
  obtain ⟨b,j⟩ : ∃ b : qa,(cond (l[i].A.X == l[i].B.X) (some (l[i].A.X,l[i].A.Y,l[i].A.X,a)) (some (l[i].A.X,l[i].A.Y,a,l[i].A.Y))) = some (l[i].A.X,l[i].A.Y,b.X,b.Y):=by
    cases h : (l[i].A.X == l[i].B.X)
    · exact ⟨{X:=a,Y:=l[i].A.Y},rfl⟩
    · exact ⟨{X:=l[i].A.X,Y:=a},rfl⟩
  simp only [c0,Bool.not_true,qz,qn,c1,c2,c3,Qu hi,j,e1,k1,y,hw,k2,k4,e3,e4,e2,e0,g];have hA : ({X:=l[i].A.X,Y:=l[i].A.Y} : qa) = l[i].A:=rfl;have w : ({X:=b.X,Y:=b.Y} : qa) = b:=rfl;have hS : ({A:=l[i].A,B:=l[i].B} : qr) = l[i]:=rfl;simp only [hA,w,hS,qh8,qn,beqP];by_cases k : J3 l[i] b
  case neg=>rw [Q4 k,Bool.not_false,Q1];simp only [qn,Q1,q7m]
  by_cases o : b = l[i].A
  · rw [Q2 k,Q2 o];simp only [Bool.not_true,qz,qn,Q1,q7m]
  by_cases t : b = l[i].B
  · rw [Q2 k,Q4 o,Q2 t];simp only [Bool.not_true,qz,qn,Q1,q7m]
  rw [Q2 k,Q4 o,Q4 t];obtain ⟨z,v2,v3⟩:=qrk hi f k o t;obtain ⟨m1,_⟩:=qv7 (by simp;omega) z hn v2 v3;have k5 : app 32 [({A:=l[i].A,B:=b} : qr)] l = some (({A:=l[i].A,B:=b} : qr)::l):=by rw [Y9 (by simp;omega)];rfl
  have k6 : idx (({A:=l[i].A,B:=b} : qr)::l) ((i + 1 : Nat) : Int) = some l[i]:=by rw [Qu (by simp;omega)];rfl
  simp only [Bool.not_true,qz,qn,k5,k6,Int.toNat_natCast,List.set_cons_succ,m1,beq_self_eq_true,Q1,d,decide_true,q7m]
end Go.Sh
