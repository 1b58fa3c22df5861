/- St20 St21 St22 St23 St24 St25 St26 St27 -/
import Derived.Test.YtgkialgkmjnfbaaGreatK14
namespace Go.Sh
open Go Go.Am
open Classical
theorem q82 {α β : Type} {f : α→List β} {c : Nat} : ∀ {l : List α},(∀ x∈l,(f x).length = c)→(l.flatMap f).length = l.length * c
  | [],_=>by simp
  | a::l,h=>by
    rw [List.flatMap_cons,List.length_append,h a qd,q82 (l:=l) fun x b=>h x (by simp [b]),List.length_cons,Nat.succ_mul]
    omega
theorem qk3 {α : Type} (p : α→Bool) : ∀ l : List α,(l.filter p).length + (l.filter fun x=>!p x).length = l.length
  | []=>rfl
  | a::l=>by
    have:=qk3 p l
    cases h : p a <;> simp [h] <;> omega
noncomputable def q3v (l : List qt) : List qa:=l.flatMap (fun s=>[s.A,s.B]) ++ (l.filter fun s=>decide (s.A.Y = s.B.Y)).flatMap fun h=>(l.filter fun s=>!decide (s.A.Y = s.B.Y)).map fun v=>({X:=v.A.X,Y:=h.A.Y} : qa)
theorem qyo : ∀ h,h < 25→∀ v,v < 25→h + v≤24→h * v≤144:=by decide
theorem qip {l : List qt} (c : l.length≤24) : (q3v l).length≤192:=by
  have e1 : (l.flatMap fun s=>[s.A,s.B]).length = l.length * 2:=q82 fun _ _=>rfl;have a : ((l.filter fun s=>decide (s.A.Y = s.B.Y)).flatMap fun h=>(l.filter fun s=>!decide (s.A.Y = s.B.Y)).map fun v=>({X:=v.A.X,Y:=h.A.Y} : qa)).length = (l.filter fun s=>decide (s.A.Y = s.B.Y)).length * (l.filter fun s=>!decide (s.A.Y = s.B.Y)).length:=q82 fun _ _=>by simp
  have b:=qk3 (fun s : qt=>decide (s.A.Y = s.B.Y)) l;unfold q3v;rw [List.length_append,e1,a];have:=qyo _ (show (l.filter fun s : qt=>decide (s.A.Y = s.B.Y)).length < 25 by omega) _ (show (l.filter fun s : qt=>!decide (s.A.Y = s.B.Y)).length < 25 by omega) q7;omega
theorem q3d {l : List qt} {y x : Int} : rowP l y x↔∃ s∈l,s.A.Y = s.B.Y∧s.A.Y = y∧min s.A.X s.B.X≤x∧x < max s.A.X s.B.X:=by
  constructor
  · rintro ⟨⟨k,t⟩,hp,rfl,b,a⟩;obtain ⟨s,hs,c,rfl,rfl⟩:=q5j.1 hp;exact ⟨s,hs,c,rfl,b,a⟩
  · rintro ⟨s,hs,c,rfl,b,a⟩;exact ⟨(_,_),q5j.2 ⟨s,hs,c,rfl,rfl⟩,rfl,b,a⟩
theorem q2s {l : List qt} {x y : Int} : colP l x y↔∃ s∈l,s.A.Y≠s.B.Y∧s.A.X = x∧min s.A.Y s.B.Y≤y∧y < max s.A.Y s.B.Y:=by
  constructor
  · rintro ⟨⟨k,t⟩,hp,rfl,b,a⟩;obtain ⟨s,hs,c,rfl,rfl⟩:=q5i.1 hp;exact ⟨s,hs,c,rfl,b,a⟩
  · rintro ⟨s,hs,c,rfl,b,a⟩;exact ⟨(_,_),q5i.2 ⟨s,hs,c,rfl,rfl⟩,rfl,b,a⟩
theorem qlo {l : List qt} {p : qa} : p∈q3v l↔(∃ s∈l,p = s.A∨p = s.B)∨∃ h∈l,h.A.Y = h.B.Y∧∃ v∈l,v.A.Y≠v.B.Y∧p = {X:=v.A.X,Y:=h.A.Y}:=by
  simp only [q3v,List.mem_append,List.mem_flatMap,List.mem_cons,List.not_mem_nil,or_false,List.mem_filter,List.mem_map,decide_eq_true_eq,Bool.not_eq_true',decide_eq_false_iff_not];constructor
  · rintro (h | ⟨h,⟨c,a⟩,v,⟨d,b⟩,rfl⟩)
    · exact .inl h
    · exact .inr ⟨h,c,a,v,d,b,rfl⟩
  · rintro (h | ⟨h,c,a,v,d,b,rfl⟩)
    · exact .inl h
    · exact .inr ⟨h,⟨c,a⟩,v,⟨d,b⟩,rfl⟩
theorem qzq {l : List qt} (m : ∀ s∈l,SegV s) {c d : Int} (e : rowP l d c) (w : ¬ rowP l d (c - 1)) : ∃ s∈l,({X:=c,Y:=d} : qa) = s.A∨({X:=c,Y:=d} : qa) = s.B:=by
  obtain ⟨a,b,j,k,u,o⟩:=q3d.1 e;have h : ¬ (min a.A.X a.B.X≤c - 1∧c - 1 < max a.A.X a.B.X):=fun g=>w (q3d.2 ⟨a,b,j,k,g.1,g.2⟩);have p:=(m a b).or;refine ⟨a,b,?_⟩;rcases Int.le_total a.A.X a.B.X with f | f
  · left;obtain ⟨⟨q,t⟩,r⟩:=a;simp only [qa.mk.injEq] at *;omega
  · right;obtain ⟨v,⟨bx,n⟩⟩:=a;simp only [qa.mk.injEq] at *;omega
theorem qzp {l : List qt} (m : ∀ s∈l,SegV s) {c d : Int} (e : rowP l d (c - 1)) (w : ¬ rowP l d c) : ∃ s∈l,({X:=c,Y:=d} : qa) = s.A∨({X:=c,Y:=d} : qa) = s.B:=by
  obtain ⟨a,b,j,k,u,o⟩:=q3d.1 e;have h : ¬ (min a.A.X a.B.X≤c∧c < max a.A.X a.B.X):=fun g=>w (q3d.2 ⟨a,b,j,k,g.1,g.2⟩);have p:=(m a b).or;refine ⟨a,b,?_⟩;rcases Int.le_total a.A.X a.B.X with f | f
  · right;obtain ⟨v,⟨bx,n⟩⟩:=a;simp only [qa.mk.injEq] at *;omega
  · left;obtain ⟨⟨q,t⟩,r⟩:=a;simp only [qa.mk.injEq] at *;omega
theorem qj6 {l : List qt} (m : ∀ s∈l,SegV s) {d c : Int} (e : colP l d c) (w : ¬ colP l d (c - 1)) : ∃ s∈l,({X:=d,Y:=c} : qa) = s.A∨({X:=d,Y:=c} : qa) = s.B:=by
  obtain ⟨a,b,j,k,u,o⟩:=q2s.1 e;have h : ¬ (min a.A.Y a.B.Y≤c - 1∧c - 1 < max a.A.Y a.B.Y):=fun g=>w (q2s.2 ⟨a,b,j,k,g.1,g.2⟩);have p:=(m a b).or;refine ⟨a,b,?_⟩;rcases Int.le_total a.A.Y a.B.Y with f | f
  · left;obtain ⟨⟨q,t⟩,r⟩:=a;simp only [qa.mk.injEq] at *;omega
  · right;obtain ⟨v,⟨bx,n⟩⟩:=a;simp only [qa.mk.injEq] at *;omega
theorem qj5 {l : List qt} (m : ∀ s∈l,SegV s) {d c : Int} (e : colP l d (c - 1)) (w : ¬ colP l d c) : ∃ s∈l,({X:=d,Y:=c} : qa) = s.A∨({X:=d,Y:=c} : qa) = s.B:=by
  obtain ⟨a,b,j,k,u,o⟩:=q2s.1 e;have h : ¬ (min a.A.Y a.B.Y≤c∧c < max a.A.Y a.B.Y):=fun g=>w (q2s.2 ⟨a,b,j,k,g.1,g.2⟩);have p:=(m a b).or;refine ⟨a,b,?_⟩;rcases Int.le_total a.A.Y a.B.Y with f | f
  · right;obtain ⟨v,⟨bx,n⟩⟩:=a;simp only [qa.mk.injEq] at *;omega
  · left;obtain ⟨⟨q,t⟩,r⟩:=a;simp only [qa.mk.injEq] at *;omega
theorem qgh {l : List qt} (c : ∀ s∈l,SegV s) {p : qa} (h : Kv (rowP l) (colP l) p.X p.Y) : p∈q3v l:=by
  rw [qlo];obtain ⟨a,b⟩:=p;simp only at h;by_cases e : rowP l b a
  · by_cases w : rowP l b (a - 1)
    · by_cases n : colP l a b
      · by_cases s : colP l a (b - 1)
        · right;obtain ⟨j,f,m,g,u,r⟩:=q3d.1 e;obtain ⟨q,d,o,k,v,t⟩:=q2s.1 n;exact ⟨j,f,m,q,d,o,by rw [k,g]⟩
        · exact .inl (qj6 c n s)
      · by_cases s : colP l a (b - 1)
        · exact .inl (qj5 c s n)
        · exfalso;unfold Kv at h;rw [Q5 e,Q5 w,Q7 n,Q7 s] at h;exact absurd h qz
    · exact .inl (qzq c e w)
  · by_cases w : rowP l b (a - 1)
    · exact .inl (qzp c w e)
    · by_cases n : colP l a b
      · by_cases s : colP l a (b - 1)
        · exfalso;unfold Kv at h;rw [Q7 e,Q7 w,Q5 n,Q5 s] at h;exact absurd h qz
        · exact .inl (qj6 c n s)
      · by_cases s : colP l a (b - 1)
        · exact .inl (qj5 c s n)
        · exfalso;unfold Kv at h;rw [Q7 e,Q7 w,Q7 n,Q7 s] at h;exact absurd h qz
theorem qlg {l : List qt} (d : l.length≤24) (c : ∀ s∈l,SegV s) : ∃ n,Jd l = some (n,0)∧q8x l = some (n,0)∧Zw (rowP l) (colP l) n∧Jf n (Zz n)∧n.Nodes.length≤192:=by
  rcases qlj (l:=l) q7 c with ⟨n,e1,j,h⟩ | ⟨_,_,b,f,m,g⟩
  · have k : n.Nodes.Nodup:=h.nodes.srt.imp (by rintro a b h rfl;exact q36 a a h h);have:=List.Nodup.length_le_of_subset k (l₂:=q3v l) fun p hp=>qgh c ((h.nodes.mem p).1 hp);have:=qip d;have:=h.elen;exact ⟨n,e1,j,h,q12b (qev q7 c) h q7,q7⟩
  · have:=List.Nodup.length_le_of_subset f (l₂:=q3v l) fun p hp=>qgh c (g p hp);have:=qip d;omega
end Go.Sh
namespace Go.Sh
open Go Go.Am
open Classical
def Len64 {α : Type} (l : List α) : Prop:=(l.length : Int)≤9223372036854775807
theorem qv0 (l : List qt) (g : Len64 l) : q86 l = some (decide ((∀ s∈l,SegV s)∧l.length≤24)):=by
  unfold Len64 at g;have:=Ks (f:=q34 l) (σ:=Unit) (fun k _=>(k : Int)) l.length (fun k _=>∀ i (hi : i < l.length),i < k→SegV l[i]) (fun o=>o = if ∀ s∈l,SegV s then .inl () else .inr false) ?_ ?_ (k0:=0) (c0:=()) q7 (fun i hi h=>q7)
  · obtain ⟨o,e,d⟩:=this;have e : loop (q34 l) 0 = some o:=e;unfold q86;rw [e,d];by_cases h : ∀ s∈l,SegV s
    · rw [Q2 h];simp only [qn];congr 1;exact decide_eq_decide.2 ⟨fun a=>⟨h,q7⟩,fun a=>by have:=a.2;omega⟩
    · rw [Q4 h];simp only [qn];rw [Q7 (fun a=>h a.1)]
  · rintro k _ hk c;by_cases b : SegV l[k]
    · refine .inl ⟨(),?_,fun i hi j=>?_⟩
      · simp only [q34,dlt' hk,Q3,Qu hk,qn,qe0,Q5 b,Bool.not_true,Q1];rw [Qa q7];rfl
      · by_cases e : i = k
        · subst e;exact b
        · exact c i hi q7
    · refine .inr ⟨.inr false,?_,by rw [Q4 (fun h=>b (h _ (Kk hk)))]⟩;simp only [q34,dlt' hk,Q3,Qu hk,qn,qe0,Q7 b,Bool.not_false]
  · rintro _ c;refine ⟨.inl (),by simp only [q34,dnl',Q1],?_⟩;rw [Q2];intro s hs;obtain ⟨i,hi,rfl⟩:=List.mem_iff_getElem.1 hs;exact c i hi hi
theorem qtb {F G : Int→Int→Prop} {n : Qh} (h : Zw F G n) (a : n.Edges.length≤400) : Fit n:=⟨⟨by have:=h.nlen;omega,q7⟩,.inl a⟩
theorem Jf.fit {n : Qh} {l : List qt} (h : Jf n l) : Fit n:=qtb h.net h.le
theorem qli {l m : List qt} {n : Qh} (d : m.length≤400) (j : ∀ s∈m,SegV s) (h : Zw (rowP l) (colP l) n) (e1 : rowP m = rowP l) (c : colP m = colP l) : Jd m = some (n,0)∧q8x m = some (n,0):=by
  rcases qlj d j with ⟨k,g,f,a⟩ | ⟨_,_,b⟩
  · rw [e1,c] at a;rw [h.uniq a];exact ⟨g,f⟩
  · rw [e1,c] at b;have:=b.not h.nodes;have:=h.nlen;omega
def flip (s : qt) : qt:={A:=s.B,B:=s.A}
theorem qtc {s : qt} (h : SegV s) : SegV (flip s):=by
  obtain ⟨a,b,c⟩:=h;exact ⟨b,a,by unfold flip;simp only;omega⟩
theorem qun {l m : List qt} (g : ∀ s∈l,SegV s) (j : ∀ s∈m,∃ t∈l,s = flip t) (h : ∀ t∈l,flip t∈m) : rowP m = rowP l∧colP m = colP l:=by
  constructor
  · funext y x;apply propext;rw [q3d,q3d];constructor
    · rintro ⟨s,hs,a,b,c,d⟩;obtain ⟨t,f,rfl⟩:=j s hs;unfold flip at a b c d;simp only at a b c d;exact ⟨t,f,a.symm,q7,q7,q7⟩
    · rintro ⟨t,f,a,b,c,d⟩;refine ⟨flip t,h t f,?_⟩;unfold flip;simp only;omega
  · funext x y;apply propext;rw [q2s,q2s];constructor
    · rintro ⟨s,hs,a,b,c,d⟩;obtain ⟨t,f,rfl⟩:=j s hs;have:=(g t f).or;unfold flip at a b c d;simp only at a b c d;exact ⟨t,f,q7,q7,q7,q7⟩
    · rintro ⟨t,f,a,b,c,d⟩;have:=(g t f).or;refine ⟨flip t,h t f,?_⟩;unfold flip;simp only;omega
end Go.Sh
namespace Go.Sh
open Go Go.Am
open Classical
theorem qnr {a b : Int} (hb : 0 < b) : q6b a b = some (Int.tmod a b):=by
  unfold q6b;rw [Q4 q7]
theorem qpv (l : List qt) (r : Int) (x : l.length≤24) : ∃ m,loop (q33 l r) (0,[]) = some m∧m.length = l.length∧(∀ s∈m,∃ t∈l,s = flip t)∧∀ t∈l,flip t∈m:=by
  by_cases o : l.length = 0
  · have : l = []:=List.length_eq_zero_iff.1 o;subst this;exact ⟨[],Kf (by simp [q33]),rfl,fun s hs=>(by cases hs),fun s hs=>(by cases hs)⟩
  · have h:=Int.tmod_lt_of_pos r (show (0 : Int) < (l.length : Int) by omega);obtain ⟨q,p⟩ : ∃ q : Nat,max (Int.tmod r (l.length : Int)) 0 = (q : Int):=⟨(max (Int.tmod r (l.length : Int)) 0).toNat,q7⟩
    have v : q < l.length:=by omega
    let g : Nat→qt:=fun i=>flip (l[(i + q) % l.length]'(Nat.mod_lt _ q7))
    have:=Ks (f:=q33 l r) (σ:=List qt) (fun k c=>((k : Int),c)) l.length (fun k c=>c = (List.range k).map g) (fun c=>c = (List.range l.length).map g) ?_ ?_ (k0:=0) (c0:=[]) q7 qd
    · obtain ⟨m,e,rfl⟩:=this;refine ⟨_,e,qd,fun s hs=>?_,fun t n=>?_⟩
      · obtain ⟨i,_,rfl⟩:=List.mem_map.1 hs;exact ⟨_,Kk _,rfl⟩
      · obtain ⟨j,d,rfl⟩:=List.mem_iff_getElem.1 n;by_cases b : q≤j
        · refine List.mem_map.2 ⟨j - q,List.mem_range.2 q7,?_⟩;show flip (l[(j - q + q) % l.length]'_) = _;have : (j - q + q) % l.length = j:=by rw [Nat.sub_add_cancel b];exact Nat.mod_eq_of_lt d
          simp only [this]
        · refine List.mem_map.2 ⟨j + l.length - q,List.mem_range.2 q7,?_⟩;show flip (l[(j + l.length - q + q) % l.length]'_) = _
          have : (j + l.length - q + q) % l.length = j:=by
            rw [Nat.sub_add_cancel q7,Nat.add_mod_right];exact Nat.mod_eq_of_lt d
          simp only [this]
    · rintro k c hk rfl;refine .inl ⟨_,?_,rfl⟩;have e1:=qnr (a:=r) (show (0 : Int) < (l.length : Int) by omega);have w:=qnr (a:=((k + q : Nat) : Int)) (show (0 : Int) < (l.length : Int) by omega)
      have u : Int.tmod ((k + q : Nat) : Int) (l.length : Int) = (((k + q) % l.length : Nat) : Int):=by
        rw [Int.tmod_eq_emod_of_nonneg q7];omega
      simp only [q33,dlt' hk,Q3,e1,qn,p];rw [Qa q7,show ((k : Int) + (q : Int)) = ((k + q : Nat) : Int) by omega,w,qn,u,Qu (Nat.mod_lt _ q7),qn,Yd (by simp;omega),qn,Qa q7,List.range_succ,List.map_append];rfl
    · rintro c rfl;exact ⟨_,by simp only [q33,dnl',Q1],rfl⟩
theorem q12w (j : q46 = some true) (l : List qt) (r : Int) (m : Len64 l) : q85 l r = some true:=by
  unfold q85;rw [qv0 l m,qn];by_cases a : (∀ s∈l,SegV s)∧l.length≤24
  · rw [Q5 a,Bool.not_true,Q1];obtain ⟨n,e1,_,f,hs,_⟩:=qlg a.2 a.1;have hb:=qev (show l.length≤400 by have:=a.2;omega) a.1;obtain ⟨c1,c2,_,_⟩:=qe6 hs.fit hs;have e0 : ((0 : Int) != 0) = false:=rfl;have o : rowP (Zz n) = rowP l:=by funext y x;exact propext (qfg hb f y x)
    have w : colP (Zz n) = colP l:=by funext y x;exact propext (qff hb f y x)
    obtain ⟨p,_⟩:=qli hs.len400 hs.val f o w;obtain ⟨b,z,b1,b2,u⟩:=qpv l r a.2
    have h : ∀ s∈b,SegV s:=by
      intro s g;obtain ⟨t,q,rfl⟩:=b2 s g;exact qtc (a.1 t q)
    obtain ⟨f1,v⟩:=qun a.1 b2 u;obtain ⟨k,_⟩:=qli (by have:=a.2;omega) h f f1 v;have d : (((Zz n).length : Int) != (n.Edges.length : Int)) = false:=by simp [Zz]
    have c:=qdz n n (by have:=hs.fit.1.1;omega) (by have:=hs.fit.1.2;omega);simp only [e1,qn,e0,Q1,c2,d,c1,p,z,k,c,decide_true,j,beq_self_eq_true,Q3]
  · rw [Q7 a,Bool.not_false,Q3,j];rfl
end Go.Sh
namespace Go.Sh
open Go Go.Am
def nxX (N : List qa) (i k : Nat) : Bool:=decide (i < k) && decide (k < N.length) && decide ((N[k]?).map (·.X) = (N[i]?).map (·.X)) && (List.range N.length).all fun j=>!(decide (i < j) && decide (j < k)) || !decide ((N[j]?).map (·.X) = (N[i]?).map (·.X))
def nxY (N : List qa) (i k : Nat) : Bool:=decide (i < k) && decide (k < N.length) && decide ((N[k]?).map (·.Y) = (N[i]?).map (·.Y)) && (List.range N.length).all fun j=>!(decide (i < j) && decide (j < k)) || !decide ((N[j]?).map (·.Y) = (N[i]?).map (·.Y))
theorem qvn {N : List qa} {i k : Nat} : nxX N i k = true↔Yz N i k:=by
  simp only [nxX,Bool.and_eq_true,decide_eq_true_eq,List.all_eq_true,List.mem_range,Bool.or_eq_true,Bool.not_eq_true',Bool.and_eq_false_iff,decide_eq_false_iff_not];constructor
  · rintro ⟨⟨⟨l,a⟩,f⟩,g⟩;have hi : i < N.length:=by omega
    rw [List.getElem?_eq_getElem a,List.getElem?_eq_getElem hi] at f;refine ⟨l,a,fun _ _=>Zf f,fun j _ b d c e=>?_⟩;rcases g j b with (h | h) | h
    · exact h d
    · exact h c
    · rw [List.getElem?_eq_getElem b,List.getElem?_eq_getElem hi] at h;exact h (congrArg some e)
  · rintro ⟨l,a,f,g⟩;have hi : i < N.length:=by omega
    refine ⟨⟨⟨l,a⟩,?_⟩,fun j b=>?_⟩
    · rw [List.getElem?_eq_getElem a,List.getElem?_eq_getElem hi];exact congrArg some (f hi a)
    · by_cases d : i < j
      · by_cases c : j < k
        · right;rw [List.getElem?_eq_getElem b,List.getElem?_eq_getElem hi];exact fun e=>g j hi b d c (Zf e)
        · exact .inl (.inr c)
      · exact .inl (.inl d)
theorem qvo {N : List qa} {i k : Nat} : nxY N i k = true↔Z4 N i k:=by
  simp only [nxY,Bool.and_eq_true,decide_eq_true_eq,List.all_eq_true,List.mem_range,Bool.or_eq_true,Bool.not_eq_true',Bool.and_eq_false_iff,decide_eq_false_iff_not];constructor
  · rintro ⟨⟨⟨l,a⟩,f⟩,g⟩;have hi : i < N.length:=by omega
    rw [List.getElem?_eq_getElem a,List.getElem?_eq_getElem hi] at f;refine ⟨l,a,fun _ _=>Zf f,fun j _ b d c e=>?_⟩;rcases g j b with (h | h) | h
    · exact h d
    · exact h c
    · rw [List.getElem?_eq_getElem b,List.getElem?_eq_getElem hi] at h;exact h (congrArg some e)
  · rintro ⟨l,a,f,g⟩;have hi : i < N.length:=by omega
    refine ⟨⟨⟨l,a⟩,?_⟩,fun j b=>?_⟩
    · rw [List.getElem?_eq_getElem a,List.getElem?_eq_getElem hi];exact congrArg some (f hi a)
    · by_cases d : i < j
      · by_cases c : j < k
        · right;rw [List.getElem?_eq_getElem b,List.getElem?_eq_getElem hi];exact fun e=>g j hi b d c (Zf e)
        · exact .inl (.inr c)
      · exact .inl (.inl d)
def rowB (l : List qt) (y x : Int) : Bool:=l.any fun s=>decide (s.A.Y = s.B.Y) && decide (s.A.Y = y) && decide (min s.A.X s.B.X≤x) && decide (x < max s.A.X s.B.X)
def colB (l : List qt) (x y : Int) : Bool:=l.any fun s=>!decide (s.A.Y = s.B.Y) && decide (s.A.X = x) && decide (min s.A.Y s.B.Y≤y) && decide (y < max s.A.Y s.B.Y)
theorem q9a {l : List qt} {y x : Int} : rowB l y x = true↔rowP l y x:=by
  rw [q3d];simp only [rowB,List.any_eq_true,Bool.and_eq_true,decide_eq_true_eq,and_assoc]
theorem q7o {l : List qt} {x y : Int} : colB l x y = true↔colP l x y:=by
  rw [q2s];simp only [colB,List.any_eq_true,Bool.and_eq_true,decide_eq_true_eq,Bool.not_eq_true',decide_eq_false_iff_not,and_assoc]
def edgB (l : List qt) (N : List qa) (i k : Nat) : Bool:=match N[i]? with
  | some p=>(nxX N i k && colB l p.X p.Y) || (nxY N i k && rowB l p.Y p.X)
  | none=>false
theorem qjl {l : List qt} {N : List qa} {i k : Nat} : edgB l N i k = true↔q45 (rowP l) (colP l) N i k:=by
  unfold edgB q45;by_cases hi : i < N.length
  · simp only [List.getElem?_eq_getElem hi,Bool.or_eq_true,Bool.and_eq_true,qvn,qvo,q9a,q7o];exact ⟨fun h=>⟨hi,h⟩,fun ⟨_,h⟩=>h⟩
  · rw [List.getElem?_eq_none q7];exact ⟨fun h=>(by cases h),fun ⟨h,_⟩=>absurd h hi⟩
instance (a b : qi) : Decidable (ltG a b):=by unfold ltG;exact inferInstance
def srtG : List qi→Bool
  | []=>true
  | a::r=>(r.all fun b=>decide (ltG a b)) && srtG r
def srtP : List qa→Bool
  | []=>true
  | a::r=>(r.all fun b=>decide (ltP a b)) && srtP r
theorem qoo : ∀ {l : List qi},srtG l = true→l.Pairwise ltG
  | [],_=>.nil
  | a::r,h=>by
    simp only [srtG,Bool.and_eq_true,List.all_eq_true,decide_eq_true_eq] at h
    exact List.pairwise_cons.2 ⟨h.1,qoo h.2⟩
theorem qop : ∀ {l : List qa},srtP l = true→l.Pairwise ltP
  | [],_=>.nil
  | a::r,h=>by
    simp only [srtP,Bool.and_eq_true,List.all_eq_true,decide_eq_true_eq] at h
    exact List.pairwise_cons.2 ⟨h.1,qop h.2⟩
def qfh (l : List qt) (n : Qh) : Bool:=srtG n.Edges && (n.Edges.all fun e=>decide (0≤e.A) && decide (0≤e.B) && edgB l n.Nodes e.A.toNat e.B.toNat) && (List.range n.Nodes.length).all fun i=>(List.range n.Nodes.length).all fun k=>!edgB l n.Nodes i k || n.Edges.any fun e=>decide (e = {A:=(i : Int),B:=(k : Int)})
theorem qsq {l : List qt} {n : Qh} (h : qfh l n = true) : q3q (rowP l) (colP l) n.Nodes n.Edges:=by
  simp only [qfh,Bool.and_eq_true,List.all_eq_true,decide_eq_true_eq,List.mem_range,Bool.or_eq_true,Bool.not_eq_true',List.any_eq_true] at h;obtain ⟨⟨j,g⟩,o⟩:=h;refine ⟨qoo j,fun e=>⟨fun d=>?_,?_⟩⟩
  · obtain ⟨⟨a,b⟩,c⟩:=g e d;refine ⟨e.A.toNat,e.B.toNat,?_,qjl.1 c⟩;obtain ⟨q,p⟩:=e;simp only [qi.mk.injEq] at a b ⊢;omega
  · rintro ⟨i,k,rfl,d⟩;have hi : i < n.Nodes.length:=d.1;have hk : k < n.Nodes.length:=by obtain ⟨_,⟨h,_⟩ | ⟨h,_⟩⟩:=d <;> exact h.hk
    rcases o i hi k hk with f | ⟨e,m,rfl⟩
    · rw [qjl.2 d] at f;cases f
    · exact m
def qdg (l : List qt) (p : qa) : Bool:=q37 (rowB l p.Y p.X) (colB l p.X p.Y) (rowB l p.Y (p.X - 1)) (colB l p.X (p.Y - 1))
open Classical in
theorem qm9 {l : List qt} {p : qa} : qdg l p = true↔Kv (rowP l) (colP l) p.X p.Y:=by
  unfold qdg Kv
  have e : ∀ {b : Bool} {P : Prop},(b = true↔P)→b = decide P:=by
    intro b P h;cases b
    · symm;exact Q7 (fun hp=>by have:=h.2 hp;cases this)
    · symm;exact Q5 (h.1 rfl)
  rw [e q9a,e q7o,e q9a,e q7o]
def qio (l : List qt) : List qa:=l.flatMap (fun s=>[s.A,s.B]) ++ l.flatMap fun h=>l.map fun v=>({X:=v.A.X,Y:=h.A.Y} : qa)
def qgj (l : List qt) (N : List qa) : Bool:=srtP N && (N.all fun p=>qdg l p) && (qio l).all fun p=>!qdg l p || N.any fun q=>decide (q = p)
theorem qvj {l : List qt} {N : List qa} (m : ∀ s∈l,SegV s) (h : qgj l N = true) : Yf (rowP l) (colP l) N:=by
  simp only [qgj,Bool.and_eq_true,List.all_eq_true,Bool.or_eq_true,Bool.not_eq_true',List.any_eq_true,decide_eq_true_eq] at h;obtain ⟨⟨n,d⟩,g⟩:=h;refine ⟨qop n,fun p=>⟨fun hp=>qm9.1 (d p hp),fun b=>?_⟩⟩
  have o : p∈qio l:=by
    rcases qlo.1 (qgh m b) with ⟨s,hs,k⟩ | ⟨h,f,_,v,a,_,rfl⟩
    · exact List.mem_append_left _ (List.mem_flatMap.2 ⟨s,hs,by rcases k with rfl | rfl <;> simp⟩)
    · exact List.mem_append_right _ (List.mem_flatMap.2 ⟨h,f,List.mem_map.2 ⟨v,a,rfl⟩⟩)
  rcases g p o with c | ⟨q,j,rfl⟩
  · rw [qm9.2 b] at c;cases c
  · exact j
def ptB (p : qa) : Bool:=decide (-1000000≤p.X) && decide (p.X≤1000000) && decide (-1000000≤p.Y) && decide (p.Y≤1000000)
def segB (s : qt) : Bool:=ptB s.A && ptB s.B && (decide (s.A.X = s.B.X) != decide (s.A.Y = s.B.Y))
theorem q111 {s : qt} (h : segB s = true) : SegV s:=by
  simp only [segB,ptB,Bool.and_eq_true,decide_eq_true_eq,bne_iff_ne,ne_eq,decide_eq_decide] at h;obtain ⟨⟨⟨⟨⟨b,d⟩,g⟩,a⟩,⟨⟨b1,b2⟩,j⟩,f⟩,c⟩:=h;refine ⟨⟨b,d,g,a⟩,⟨b1,b2,j,f⟩,?_⟩;by_cases e1 : s.A.X = s.B.X <;> by_cases k : s.A.Y = s.B.Y <;> simp [e1,k] at c ⊢
def netB (l : List qt) (n : Qh) : Bool:=l.all segB && decide (l.length≤24) && qgj l n.Nodes && qfh l n
theorem q8g {l : List qt} {n : Qh} (h : netB l n = true) : (∀ s∈l,SegV s)∧l.length≤24∧Zw (rowP l) (colP l) n∧Jf n (Zz n)∧Jd l = some (n,0):=by
  simp only [netB,Bool.and_eq_true,List.all_eq_true,decide_eq_true_eq] at h;obtain ⟨⟨⟨q,k⟩,o⟩,p⟩:=h;have j : ∀ s∈l,SegV s:=fun s hs=>q111 (q s hs);obtain ⟨m,e1,_,g,hs,_⟩:=qlg k j;have f : m.Nodes = n.Nodes:=qma g.nodes (qvj j o);have O : m.Edges = n.Edges:=qjn (by rw [← f];exact g.edges) (qsq p)
  have : m = n:=by
    obtain ⟨a,b⟩:=m;obtain ⟨c,d⟩:=n;simp only at f O;rw [f,O]
  subst this;exact ⟨j,k,g,hs,e1⟩
end Go.Sh
namespace Go.Sh
open Go Go.Am
open Classical
theorem qk5 (p : qa) : q41 p = some (decide (PtB p)):=by
  unfold q41;by_cases h : PtB p
  · have a:=h;unfold PtB at a;rw [Q5 h,Qa q7,Qa q7,Q5 (show max (max (max p.X (0 - p.X)) p.Y) (0 - p.Y)≤1000000 by omega),Q3,Q5 (show min p.X p.Y ≥ -1000000 by omega)];rfl
  · have a:=h;unfold PtB at a;rw [Q7 h];by_cases b : (max (max (max p.X (w64 (0 - p.X))) p.Y) (w64 (0 - p.Y)))≤1000000
    · rw [Q5 b,Q3,Q7 (show ¬ min p.X p.Y ≥ -1000000 by omega)];rfl
    · rw [Q7 b];rfl
def dirs : List qa:=[{X:=1,Y:=0},{X:=0,Y:=1},{X:=(-1),Y:=0},{X:=0,Y:=(-1)}]
theorem qjz : q55 [] = some 0:=by
  unfold q55;have : loop (qct []) 0 = some (.inl ()):=Kf rfl;rw [this];rfl
theorem qt5 (p : qa) : q7x [] p = some 2:=by
  unfold q7x qcu;have : loop (qcv [] p) (0,0) = some 0:=Kf rfl;rw [this];rfl
theorem qp5 {p : qa} {h : Nat} {d : qa} (g : h < 4) (hd : dirs[h]? = some d) (hp : PtB p) (f : PtB {X:=p.X + d.X,Y:=p.Y + d.Y}) : q40 [] p (h : Int) 1 = some ([p,{X:=p.X + d.X,Y:=p.Y + d.Y}],0):=by
  have b:=f;unfold PtB at b;simp only at b
  have c : idxA 4 dirs (h : Int) = some d:=by
    unfold idxA;simp only [Int.toNat_natCast]
    first
      | (rw [Q2 q7];exact hd)
      | (rw [Q2 ⟨q7,q7⟩];exact hd)
      | simp [hd,g]
  have s0 : q56 1 [] ((h : Int),0,p.X,p.Y,[p]) = some (.inl ((h : Int),1,p.X + d.X,p.Y + d.Y,[p,{X:=p.X + d.X,Y:=p.Y + d.Y}])):=by
    unfold q56;have a : idxA 4 [({X:=1,Y:=0} : qa),({X:=0,Y:=1} : qa),({X:=(-1),Y:=0} : qa),({X:=0,Y:=(-1)} : qa)] (h : Int) = some d:=c;have c0 : decide ((0 : Int) < 1) = true:=rfl;have c2 : decide ((2 : Int) < 2) = false:=rfl;simp only [c0,Q3,qt5,qn,c2,Q1,a];rw [Qa (x:=p.X + d.X) q7,Qa (x:=p.Y + d.Y) q7,qk5,Q5 f];rfl
  have s1 : q56 1 [] ((h : Int),1,p.X + d.X,p.Y + d.Y,[p,{X:=p.X + d.X,Y:=p.Y + d.Y}]) = some (.inr (.inl [p,{X:=p.X + d.X,Y:=p.Y + d.Y}])):=rfl;unfold q40;have e0 : ((0 : Int) != 0) = false:=rfl;rw [qjz,qn,e0,Q1,qk5,Q5 hp,qn,Bool.not_true,Q1,qn,Q7 (show ¬ (h : Int) > 3 by omega),Q1,qn];have c1 : decide ((1 : Int) < 0) = false:=rfl;have c3 : decide ((1 : Int) > 500) = false:=rfl;rw [c1,Q1,qn,c3,Q1,Kg s0,Kf s1];rfl
theorem qjg {h : Nat} {d : qa} (b : h < 4) (hd : dirs[h]? = some d) : q9g dirs d = some (h : Int):=by
  have nx : ∀ (d : qa) (k : Nat) (e : qa),dirs[k]? = some e→k < 4→e≠d→q2h dirs d (k : Int) = some (.inl ((k + 1 : Nat) : Int)):=by
    intro d k e c hk f;unfold q2h;rw [Q5 (show (k : Int) < (dirs.length : Int) by have : dirs.length = 4:=rfl;omega),Q3];have : idx dirs (k : Int) = some e:=by unfold idx;simp [c]
    rw [this,qn,beqP,Q7 (fun h=>f h.symm),Q1,Qa q7];rfl
  have fd : ∀ (d : qa) (k : Nat),dirs[k]? = some d→k < 4→q2h dirs d (k : Int) = some (.inr (.inr (k : Int))):=by
    intro d k c hk;unfold q2h;rw [Q5 (show (k : Int) < (dirs.length : Int) by have : dirs.length = 4:=rfl;omega),Q3];have : idx dirs (k : Int) = some d:=by unfold idx;simp [c]
    rw [this,qn,beqP,Q5 rfl,Q3]
  have key : loop (q2h dirs d) ((0 : Nat) : Int) = some (.inr (h : Int)):=by
    have : h = 0∨h = 1∨h = 2∨h = 3:=by omega
    rcases this with rfl | rfl | rfl | rfl
    · exact Kf (fd d 0 hd b)
    · cases hd;rw [Kg (nx _ 0 _ rfl q7 qz)];exact Kf (fd _ 1 rfl b)
    · cases hd;rw [Kg (nx _ 0 _ rfl q7 qz),Kg (nx _ 1 _ rfl q7 qz)];exact Kf (fd _ 2 rfl b)
    · cases hd;rw [Kg (nx _ 0 _ rfl q7 qz),Kg (nx _ 1 _ rfl q7 qz),Kg (nx _ 2 _ rfl q7 qz)];exact Kf (fd _ 3 rfl b)
  have a : loop (q2h dirs d) 0 = some (.inr (h : Int)):=key;unfold q9g;rw [a];rfl
end Go.Sh
namespace Go.Sh
open Go Go.Am
def qeb (w : Yt) (h k : Nat) (vis : List (qa × Bool)) (segs : List qt) (p q : qa) : Option ((Int × Int × (List (qa × Bool)) × List qt × Int × Int) ⊕ (((List (qa × Bool)) × List qt) ⊕ (Int × (List (qa × Bool)) × List qt))):=
  (cond (K6 false q vis) (some true) (some ((q.X == w.At.X) && ((q.Y == w.At.Y) && true)))).bind fun c=>cond c (some (.inr (.inl (K9 q true (K9 p true vis),segs)))) (some (.inl ((h : Int),((k + 1 : Nat) : Int),K9 q true (K9 p true vis),segs,q.X,q.Y)))
theorem qp9 (w : Yt) {h : Nat} {d : qa} (n : h < 4) (hd : dirs[h]? = some d) (hk : 0 < w.Steps) (p : qa) (hp : PtB p) (o : PtB {X:=p.X + d.X,Y:=p.Y + d.Y}) (l : List (qa × Bool)) (c : List qt) (hs : c.length < 400) :
    Zt w [] ((h : Int),0,l,c,p.X,p.Y) = qeb w h 0 l (c ++ [{A:=p,B:={X:=p.X + d.X,Y:=p.Y + d.Y}}]) p {X:=p.X + d.X,Y:=p.Y + d.Y}:=by
  have hp':=hp;have k:=o;unfold PtB at hp' k;simp only at k;have r:=qp5 n hd hp o
  have q : ({X:=w64 (p.X + d.X - p.X),Y:=w64 (p.Y + d.Y - p.Y)} : qa) = d:=by
    rw [Qa q7,Qa q7];obtain ⟨a,b⟩:=d;simp only [qa.mk.injEq];omega
  have f : IntKind.wrap .u8 (h : Int) = (h : Int):=by
    have : h = 0∨h = 1∨h = 2∨h = 3:=by omega
    rcases this with rfl | rfl | rfl | rfl <;> rfl
  have g:=qjg n hd;unfold dirs at g;have e0 : ((0 : Int) != 0) = false:=rfl;have j : ∀ a b : qa,idx [a,b] 1 = some b:=fun a b=>rfl;have s : decide ((0 : Int) > 0) = false:=rfl;unfold Zt qeb;simp only [Q5 hk,Q3];have m : q40 [] ({X:=p.X,Y:=p.Y} : qa) (h : Int) 1 = some ([p,{X:=p.X + d.X,Y:=p.Y + d.Y}],0):=r;simp only [m,qn,e0,Q1,j,q,g,s,f];rw [Yd (by simp;omega)];simp only [qn];rw [Q7 (show ¬ (((c ++ [({A:={X:=p.X,Y:=p.Y},B:={X:=p.X + d.X,Y:=p.Y + d.Y}} : qt)]).length : Int) > 400) by simp;omega),Q1];simp only [qn];rw [Qa q7];rfl
theorem qeh (w : Yt) {h : Nat} {d : qa} (t : h < 4) (hd : dirs[h]? = some d) {k : Nat} (ab : 0 < k) (hk : (k : Int) < w.Steps) (y : k≤1000) (p : qa) (hp : PtB p) (v : PtB {X:=p.X + d.X,Y:=p.Y + d.Y}) (o : List (qa × Bool)) (c : List qt) (s : qt) (hs : c.length≤400) :
    Zt w [] ((h : Int),(k : Int),o,c ++ [s],p.X,p.Y) = qeb w h k o (c ++ [{A:=s.A,B:={X:=p.X + d.X,Y:=p.Y + d.Y}}]) p {X:=p.X + d.X,Y:=p.Y + d.Y}:=by
  have hp':=hp;have n:=v;unfold PtB at hp' n;simp only at n;have z:=qp5 t hd hp v
  have x : ({X:=w64 (p.X + d.X - p.X),Y:=w64 (p.Y + d.Y - p.Y)} : qa) = d:=by
    rw [Qa q7,Qa q7];obtain ⟨a,b⟩:=d;simp only [qa.mk.injEq];omega
  have g : IntKind.wrap .u8 (h : Int) = (h : Int):=by
    have : h = 0∨h = 1∨h = 2∨h = 3:=by omega
    rcases this with rfl | rfl | rfl | rfl <;> rfl
  have j:=qjg t hd;unfold dirs at j;have e0 : ((0 : Int) != 0) = false:=rfl;have l : ∀ a b : qa,idx [a,b] 1 = some b:=fun a b=>rfl;have hg : decide ((k : Int) > 0) = true:=Q5 q7;have q : w64 (((c ++ [s]).length : Int) - 1) = (c.length : Int):=by rw [Qa (by simp;omega)];simp
  have f : idx (c ++ [s]) (c.length : Int) = some s:=by rw [Qu qd];simp
  unfold Zt qeb;simp only [Q5 hk,Q3];have r : q40 [] ({X:=p.X,Y:=p.Y} : qa) (h : Int) 1 = some ([p,{X:=p.X + d.X,Y:=p.Y + d.Y}],0):=z;simp only [r,qn,e0,Q1,l,x,j,hg,g,Q3,beq_self_eq_true,q,f,Int.toNat_natCast];have m : ∀ u : qt,(c ++ [s]).set c.length u = c ++ [u]:=by intro u;simp
  simp only [m];rw [Qa q7];rfl
end Go.Sh
namespace Go.Sh
open Go Go.Am
abbrev pq (x y : Int) : qa:={X:=x,Y:=y}
abbrev sg (a b c d : Int) : qt:={A:=pq a b,B:=pq c d}
abbrev ed (a b : Int) : qi:={A:=a,B:=b}
def n4 : Qh:={Nodes:=[pq 0 0,pq 2 0,pq 2 3,pq 4 0],Edges:=[ed 0 1,ed 1 2,ed 1 3]}
def n5 : Qh:={Nodes:=[pq 0 0,pq 2 (-1),pq 2 0,pq 2 3,pq 4 0],Edges:=[ed 0 2,ed 1 2,ed 2 3,ed 2 4]}
def n6 : Qh:={Nodes:=[pq 0 0,pq 2 0,pq 2 2,pq 4 0],Edges:=[ed 0 1,ed 1 2,ed 1 3]}
def n2 : Qh:={Nodes:=[pq 0 0,pq 4 0],Edges:=[ed 0 1]}
theorem net4 : netB [sg 0 0 4 0,sg 2 0 2 3] n4 = true:=by decide +kernel
theorem net5 : netB [sg 0 0 4 0,sg 2 3 2 0,sg 2 (-1) 2 0] n5 = true:=by decide +kernel
theorem net6 : netB [sg 0 0 4 0,sg 2 2 2 0] n6 = true:=by decide +kernel
theorem net2 : netB [sg 0 0 2 0,sg 2 0 4 0] n2 = true:=by decide +kernel
theorem qlk {l : List qt} {n : Qh} (h : netB l n = true) : q5d n l = some true:=by
  obtain ⟨_,_,b,hs,e⟩:=q8g h;obtain ⟨c1,_,_,_⟩:=qe6 hs.fit hs;unfold q5d;have a:=qdz n n (by have:=hs.fit.1.1;omega) (by have:=hs.fit.1.2;omega);simp only [e,qn,a,decide_true,c1,beq_self_eq_true,Q3]
open Classical in
theorem qje (l : List qt) (p : qa) : degN l p = b2z (rowB l p.Y p.X) + b2z (colB l p.X p.Y) + b2z (rowB l p.Y (p.X - 1)) + b2z (colB l p.X (p.Y - 1)):=by
  have e : ∀ {b : Bool} {P : Prop},(b = true↔P)→decide P = b:=by
    intro b P h;cases b
    · exact Q7 (fun hp=>by have:=h.2 hp;cases this)
    · exact Q5 (h.1 rfl)
  unfold degN;rw [e q9a,e q7o,e q9a,e q7o]
theorem qjf {l : List qt} {n : Qh} (h : netB l n = true) {i : Nat} (hi : i < n.Nodes.length) : q2l n (i : Int) = some (degN l n.Nodes[i],0):=by
  obtain ⟨c,f,a,hs,e⟩:=q8g h;have hb:=qev (show l.length≤400 by omega) c;rw [(qrj hs.fit hs hi).1];have d : rowP (Zz n) = rowP l:=by funext y x;exact propext (qfg hb a y x)
  have b : colP (Zz n) = colP l:=by funext y x;exact propext (qff hb a y x)
  unfold degN;rw [d,b]
def w1 : Yt:={At:=pq 0 0,Head:=0,Steps:=4}
def w2 : Yt:={At:=pq 2 2,Head:=3,Steps:=9}
def V4 : List (qa × Bool):=[(pq 0 0,true),(pq 1 0,true),(pq 2 0,true),(pq 3 0,true),(pq 4 0,true)]
theorem pb {x y : Int} (h : -1000≤x∧x≤1000∧-1000≤y∧y≤1000) : PtB {X:=x,Y:=y}:=by unfold PtB;simp only;omega
theorem q13g : q4v [] w1 [] [] = some (0,V4,[sg 0 0 4 0]):=by
  have s0 : Zt w1 [] (0,0,[],[],0,0) = some (.inl (0,1,[(pq 0 0,true),(pq 1 0,true)],[sg 0 0 1 0],1,0)):=(qp9 w1 (h:=0) (d:=pq 1 0) q7 rfl qz (pq 0 0) (pb qz) (pb qz) [] [] qd).trans rfl;have s1 : Zt w1 [] (0,1,[(pq 0 0,true),(pq 1 0,true)],[sg 0 0 1 0],1,0) = some (.inl (0,2,[(pq 0 0,true),(pq 1 0,true),(pq 2 0,true)],[sg 0 0 2 0],2,0)):=(qeh w1 (h:=0) (d:=pq 1 0) q7 rfl (k:=1) q7 qz q7 (pq 1 0) (pb qz) (pb qz) [(pq 0 0,true),(pq 1 0,true)] [] (sg 0 0 1 0) qd).trans rfl;have c : Zt w1 [] (0,2,[(pq 0 0,true),(pq 1 0,true),(pq 2 0,true)],[sg 0 0 2 0],2,0) = some (.inl (0,3,[(pq 0 0,true),(pq 1 0,true),(pq 2 0,true),(pq 3 0,true)],[sg 0 0 3 0],3,0)):=(qeh w1 (h:=0) (d:=pq 1 0) q7 rfl (k:=2) q7 qz q7 (pq 2 0) (pb qz) (pb qz) [(pq 0 0,true),(pq 1 0,true),(pq 2 0,true)] [] (sg 0 0 2 0) qd).trans rfl;have a : Zt w1 [] (0,3,[(pq 0 0,true),(pq 1 0,true),(pq 2 0,true),(pq 3 0,true)],[sg 0 0 3 0],3,0) = some (.inl (0,4,V4,[sg 0 0 4 0],4,0)):=(qeh w1 (h:=0) (d:=pq 1 0) q7 rfl (k:=3) q7 qz q7 (pq 3 0) (pb qz) (pb qz) [(pq 0 0,true),(pq 1 0,true),(pq 2 0,true),(pq 3 0,true)] [] (sg 0 0 3 0) qd).trans rfl;have b : Zt w1 [] (0,4,V4,[sg 0 0 4 0],4,0) = some (.inr (.inl (V4,[sg 0 0 4 0]))):=rfl;unfold q4v;show (loop (Zt w1 []) (0,0,[],[],0,0)).bind _ = _;rw [Kg s0,Kg s1,Kg c,Kg a,Kf b];rfl
theorem q13h : ∃ V,q4v [] w2 [sg 0 0 4 0] V4 = some (0,V,[sg 0 0 4 0,sg 2 2 2 0]):=by
  have s0 : Zt w2 [] (3,0,V4,[sg 0 0 4 0],2,2) = some (.inl (3,1,V4 ++ [(pq 2 2,true),(pq 2 1,true)],[sg 0 0 4 0,sg 2 2 2 1],2,1)):=(qp9 w2 (h:=3) (d:=pq 0 (-1)) q7 rfl qz (pq 2 2) (pb qz) (pb qz) V4 [sg 0 0 4 0] qd).trans rfl;have s1 : Zt w2 [] (3,1,V4 ++ [(pq 2 2,true),(pq 2 1,true)],[sg 0 0 4 0,sg 2 2 2 1],2,1) = some (.inr (.inl (V4 ++ [(pq 2 2,true),(pq 2 1,true)],[sg 0 0 4 0,sg 2 2 2 0]))):=(qeh w2 (h:=3) (d:=pq 0 (-1)) q7 rfl (k:=1) q7 qz q7 (pq 2 1) (pb qz) (pb qz) (V4 ++ [(pq 2 2,true),(pq 2 1,true)]) [sg 0 0 4 0] (sg 2 2 2 1) qd).trans rfl;refine ⟨V4 ++ [(pq 2 2,true),(pq 2 1,true)],?_⟩;unfold q4v;show (loop (Zt w2 []) (3,0,V4,[sg 0 0 4 0],2,2)).bind _ = _;rw [Kg s0,Kf s1];rfl
theorem qto : qbt [] [w1,w2] = some (n6,0):=by
  obtain ⟨V,j⟩:=q13h;have c : q76 [w1,w2] 0 = some (.inl 1):=rfl;have f : q76 [w1,w2] 1 = some (.inl 2):=rfl;have g : q76 [w1,w2] 2 = some (.inr (.inl ())):=rfl;have e0 : ((0 : Int) != 0) = false:=rfl
  have d : q3h [w1,w2] [] (0,[],[]) = some (.inl (1,[sg 0 0 4 0],V4)):=by
    unfold q3h;have b : decide ((0 : Int) < (([w1,w2] : List Yt).length : Int)) = true:=rfl;have a : idx [w1,w2] 0 = some w1:=rfl;simp only [b,Q3,a,qn,q13g,e0,Q1];rfl
  have b1 : q3h [w1,w2] [] (1,[sg 0 0 4 0],V4) = some (.inl (2,[sg 0 0 4 0,sg 2 2 2 0],V)):=by
    unfold q3h;have b : decide ((1 : Int) < (([w1,w2] : List Yt).length : Int)) = true:=rfl;have a : idx [w1,w2] 1 = some w2:=rfl;simp only [b,Q3,a,qn,j,e0,Q1];rfl
  have b2 : q3h [w1,w2] [] (2,[sg 0 0 4 0,sg 2 2 2 0],V) = some (.inr (.inl [sg 0 0 4 0,sg 2 2 2 0])):=rfl;unfold qbt;have h : decide ((([w1,w2] : List Yt).length : Int) > 30) = false:=rfl;rw [qjz,qn,e0,Q1,h,Q1,Kg c,Kg f,Kf g];simp only [qn];rw [Kg d,Kg b1,Kf b2];simp only [qn];rw [(q8g net6).2.2.2.2];rfl
theorem qtu : q8w n5.Nodes (pq 2 0) = some 2:=by
  have b : q5u n5.Nodes (pq 2 0) 0 = some (.inl 1):=rfl;have a : q5u n5.Nodes (pq 2 0) 1 = some (.inl 2):=rfl;have c : q5u n5.Nodes (pq 2 0) 2 = some (.inr (.inr 2)):=rfl;unfold q8w;rw [Kg b,Kg a,Kf c];rfl
theorem len4 : q77 n4 = some (7,0):=by
  obtain ⟨_,_,f,hs,_⟩:=q8g net4;obtain ⟨a,c,e1,_,b,h⟩:=qui hs.fit;have d:=h _ hs;obtain ⟨c1,_,_,_⟩:=qe6 hs.fit hs;rw [b] at c1;cases c1;have : Yv (Zz n4) = 7:=by rfl
  rw [e1,d,this]
theorem qpm : q46 = some true:=by
  have d : q2l n4 1 = some (3,0):=by
    have:=qjf net4 (i:=1) qz;rw [qje] at this;exact this
  have k : q2l n5 2 = some (4,0):=by
    have:=qjf net5 (i:=2) qz;rw [qje] at this;exact this
  have l:=(q8g net5).2.2.2.2;have g:=qlk net4;have c:=qlk net2;have j:=qtu;have b:=len4;have f:=qto;have a:=qdz n6 n6 qz qz;unfold n4 at d g b;unfold w1 w2 at f;unfold n2 at c;unfold q46;simp only [Ya,q1i,qn,d,b,l,j,k,f,g,c,beq_self_eq_true,Q3]
  have h : q1k n6 {Nodes:=[{X:=0,Y:=0},{X:=2,Y:=0},{X:=2,Y:=2},{X:=4,Y:=0}],Edges:=[{A:=0,B:=1},{A:=1,B:=2},{A:=1,B:=3}]} = some true:=by
    have:=a;rw [Q5 rfl] at this;exact this
  rw [h];rfl
end Go.Sh
namespace Go.Sh
open Go Go.Am
theorem quc {α : Type} {l : List α} (h : l.length≤maxLen) : Len64 l:=by
  have : maxLen≤9223372036854775807:=by decide
  unfold Len64;omega
theorem q144 (l : List qt) (r : Int) (h : l.length≤maxLen) : q85 l r = some true:=q12w qpm l r (quc h)
end Go.Sh
