/- Rt2 Rt3 Rt4 Rm1 Rt5 Rt6 Rt7 -/
import Derived.Test.YtiejlbckgihckaaGreatK12
namespace Go.Sh
open Go Go.Am
inductive Cn (adj : Nat→Nat→Prop) : Nat→Nat→Prop
  | refl (i : Nat) : Cn adj i i
  | step {i j k : Nat} : Cn adj i j→adj j k→Cn adj i k
section
variable {adj : Nat→Nat→Prop}
theorem Cn.trans {i j k : Nat} (h : Cn adj i j) (g : Cn adj j k) : Cn adj i k:=by
  induction g with
  | refl=>exact h
  | step _ h2 ih=>exact .step ih h2
theorem Cn.symm (hs : ∀ i k,adj i k→adj k i) {i j : Nat} (h : Cn adj i j) : Cn adj j i:=by
  induction h with
  | refl=>exact .refl _
  | step _ h2 ih=>exact (Cn.step (.refl _) (hs _ _ h2)).trans ih
theorem Cn.lt {n : Nat} (a : ∀ i k,adj i k→k < n) {i j : Nat} (h : Cn adj i j) (hi : i < n) : j < n:=by
  induction h with
  | refl=>exact hi
  | step _ h2 _=>exact a _ _ h2
theorem Cn.closed {S : Nat→Prop} (a : ∀ i k,S i→adj i k→S k) {i j : Nat} (h : Cn adj i j) (hi : S i) : S j:=by
  induction h with
  | refl=>exact hi
  | step _ h2 ih=>exact a _ _ ih h2
end
def adjB (s : List qg) (i k : Nat) : Prop:=∃ a b,s[i]? = some a∧s[k]? = some b∧Kp a b > 0
theorem qn8 (s : List qg) (i k : Nat) (h : adjB s i k) : adjB s k i:=by
  obtain ⟨a,b,d,c,f⟩:=h;exact ⟨b,a,c,d,by rw [qgy];exact f⟩
theorem qn7 (s : List qg) (i k : Nat) (h : adjB s i k) : k < s.length:=by
  obtain ⟨a,b,d,c,f⟩:=h;exact (List.getElem?_eq_some_iff.1 c).1
theorem qfu {s : List qg} {i k : Nat} (hi : i < s.length) (d : k < s.length) : adjB s i k↔Kp s[i] s[k] > 0:=by
  constructor
  · rintro ⟨a,b,f,c,g⟩;rw [List.getElem?_eq_getElem hi] at f;rw [List.getElem?_eq_getElem d] at c;cases f;cases c;exact g
  · intro h;exact ⟨_,_,List.getElem?_eq_getElem hi,List.getElem?_eq_getElem d,h⟩
open Classical in
noncomputable def pick (s : List qg) (P : Nat→Prop) : List qg:=((List.range s.length).filter fun j=>decide (P j)).filterMap fun j=>s[j]?
theorem qtu (s : List qg) : (List.range s.length).filterMap (fun j=>s[j]?) = s:=by
  have key : ∀ n,n≤s.length→(List.range n).filterMap (fun j=>s[j]?) = s.take n:=by
    intro n
    induction n with
    | zero=>intro _;simp
    | succ n ih=>
      intro h;rw [List.range_succ,List.filterMap_append,ih q0,List.take_succ_eq_append_getElem q0];simp [List.getElem?_eq_getElem (show n < s.length by omega)]
  rw [key _ (Nat.le_refl _),List.take_length]
theorem qk4 (s : List qg) (P : Nat→Prop) : (pick s P).Sublist s:=by
  have h:=List.Sublist.filterMap (fun j=>s[j]?) (List.filter_sublist (p:=fun j=>@decide (P j) (Classical.propDecidable _)) (l:=List.range s.length));rw [qtu] at h;exact h
theorem qtl {s : List qg} {P : Nat→Prop} {b : qg} : b∈pick s P↔∃ j,∃ h : j < s.length,P j∧s[j] = b:=by
  unfold pick;simp only [List.mem_filterMap,List.mem_filter,List.mem_range,decide_eq_true_eq];constructor
  · rintro ⟨j,⟨a,d⟩,c⟩;rw [List.getElem?_eq_getElem a] at c;exact ⟨j,a,d,by simpa using c⟩
  · rintro ⟨j,a,d,c⟩;exact ⟨j,⟨a,d⟩,by rw [List.getElem?_eq_getElem a,c]⟩
noncomputable def comp (s : List qg) (i : Nat) : List qg:=pick s (Cn (adjB s) i)
def repI (s : List qg) (i : Nat) : Prop:=∀ j,j < i→¬ Cn (adjB s) j i
open Classical in
noncomputable def q5c (s : List qg) : List (List qg):=((List.range s.length).filter fun i=>decide (repI s i)).map fun i=>mrgB 2 (comp s i) []
noncomputable def qem (s : List qg) : List (List qg) × Int:=if K1 s≠0 then ([],K1 s) else (q5c s,0)
theorem qrl {l m : List qg} (c : l.length≤100000) (a : m.length≤100000) (h : ∀ b,b∈l↔b∈m) : mrgB 2 l [] = mrgB 2 m []:=by
  refine qck (q59 2 (by simpa using c)) (q59 2 (by simpa using a)) fun x y z=>?_;rw [qdk c,qdk a];constructor
  · rintro ⟨b,hb,q⟩;exact ⟨b,(h b).1 hb,q⟩
  · rintro ⟨b,hb,q⟩;exact ⟨b,(h b).2 hb,q⟩
theorem qtm {s : List qg} (hs : K1 s = 0) (P : Nat→Prop) : K1 (mrgB 2 (pick s P) []) = 0∧(mrgB 2 (pick s P) []).length≤s.length∧mkB (pick s P) = (mrgB 2 (pick s P) [],0):=by
  obtain ⟨j,f,g⟩:=Z6.1 hs;have a:=qk4 s P;have h:=a.length_le;have d : ∀ b∈pick s P,vB b:=fun b hb=>f b (a.subset hb);have hb:=qzz g a q0;have c:=q59 2 (p:=pick s P) (q:=[]) (by simp;omega);refine ⟨Z6.2 ⟨q0,c.vB (InB.mrg (by simp;omega) (q10h d) InB.nil),c⟩,q0,?_⟩;unfold mkB;rw [qn q0,ql d,qn q0]
def qzp (c d : Q2) : Prop:=(c.Y = d.Y∧c.Z = d.Z∧(d.X = c.X + 1∨d.X = c.X - 1))∨(c.X = d.X∧c.Z = d.Z∧(d.Y = c.Y + 1∨d.Y = c.Y - 1))∨(c.X = d.X∧c.Y = d.Y∧(d.Z = c.Z + 1∨d.Z = c.Z - 1))
inductive CC (P : Q2→Prop) : Q2→Q2→Prop
  | refl (c : Q2) : CC P c c
  | step {c d e : Q2} : CC P c d→qzp d e→P e→CC P c e
theorem CC.trans {P : Q2→Prop} {c d e : Q2} (h : CC P c d) (g : CC P d e) : CC P c e:=by
  induction g with
  | refl=>exact h
  | step _ h2 h3 ih=>exact .step ih h2 h3
theorem CC.mono {P Q : Q2→Prop} (a : ∀ c,P c→Q c) {c d : Q2} (h : CC P c d) : CC Q c d:=by
  induction h with
  | refl=>exact .refl _
  | step _ h2 h3 ih=>exact .step ih h2 (a _ h3)
theorem qec {a b : Int} (c : 0 < a) (hb : 0 < b) : 0 < a * b:=Int.mul_pos c hb
theorem qp3 (a b : qg) : Kp a b > 0↔
    (min a.Hi.X b.Hi.X - max a.Lo.X b.Lo.X = 0∧min a.Hi.Y b.Hi.Y - max a.Lo.Y b.Lo.Y > 0∧min a.Hi.Z b.Hi.Z - max a.Lo.Z b.Lo.Z > 0)∨
    (min a.Hi.X b.Hi.X - max a.Lo.X b.Lo.X > 0∧min a.Hi.Y b.Hi.Y - max a.Lo.Y b.Lo.Y = 0∧min a.Hi.Z b.Hi.Z - max a.Lo.Z b.Lo.Z > 0)∨
    (min a.Hi.X b.Hi.X - max a.Lo.X b.Lo.X > 0∧min a.Hi.Y b.Hi.Y - max a.Lo.Y b.Lo.Y > 0∧min a.Hi.Z b.Hi.Z - max a.Lo.Z b.Lo.Z = 0):=by
  unfold Kp;simp only;generalize min a.Hi.X b.Hi.X - max a.Lo.X b.Lo.X = x;generalize min a.Hi.Y b.Hi.Y - max a.Lo.Y b.Lo.Y = y;generalize min a.Hi.Z b.Hi.Z - max a.Lo.Z b.Lo.Z = z;split
  · rename_i h;exact ⟨fun _=>.inl h,fun _=>qec h.2.1 h.2.2⟩
  · split
    · rename_i h;exact ⟨fun _=>.inr (.inl h),fun _=>qec h.1 h.2.2⟩
    · split
      · rename_i h;exact ⟨fun _=>.inr (.inr h),fun _=>qec h.1 h.2.1⟩
      · rename_i c f d;exact ⟨fun h=>absurd h qw,fun h=>(h.elim (fun h=>absurd h c) fun h=>h.elim (fun h=>absurd h f) fun h=>absurd h d)⟩
end Go.Sh
namespace Go.Sh
open Go Go.Am
def pts (l : List qg) (c : Q2) : Prop:=hasB l c.X c.Y c.Z
end Go.Sh
namespace Go.Sh
open Go Go.Am
end Go.Sh
namespace Go.Sh
open Go Go.Am
section
variable {α β : Type} [DecidableEq α]
def NdK (es : List (α × β)) : Prop:=(es.map Prod.fst).Nodup
theorem qjc {k : α} {v : β} : ∀ {es : List (α × β)} {a : α},a∈(Zg k v es).map Prod.fst→a = k∨a∈es.map Prod.fst
  | [],a,h=>by simp [Zg] at h;exact .inl h
  | (b,w)::r,a,h=>by
    unfold Zg at h
    by_cases c : k = b
    · rw [ql c] at h
      simp only [List.map_cons,List.mem_cons] at h ⊢
      rcases h with h | h
      · exact .inl h
      · exact .inr (.inr h)
    · rw [qn c] at h
      simp only [List.map_cons,List.mem_cons] at h ⊢
      rcases h with h | h
      · exact .inr (.inl h)
      · rcases qjc h with g | g
        · exact .inl g
        · exact .inr (.inr g)
theorem NdK.put {k : α} {v : β} : ∀ {es : List (α × β)},NdK es→NdK (Zg k v es)
  | [],_=>by simp [NdK,Zg]
  | (b,w)::r,h=>by
    unfold NdK at h ⊢
    unfold Zg
    simp only [List.map_cons,List.nodup_cons] at h
    by_cases a : k = b
    · subst a
      rw [ql rfl]
      simp only [List.map_cons,List.nodup_cons]
      exact h
    · rw [qn a]
      simp only [List.map_cons,List.nodup_cons]
      refine ⟨fun c=>?_,NdK.put (es:=r) h.2⟩
      rcases qjc c with g | g
      · exact a g.symm
      · exact h.1 g
theorem qj4 {k : α} : ∀ {es : List (α × β)} {a : α},a∈(Yt k es).map Prod.fst→a∈es.map Prod.fst
  | [],a,h=>by simp [Yt] at h
  | (b,w)::r,a,h=>by
    unfold Yt at h
    by_cases c : k = b
    · rw [ql c] at h
      simp only [List.map_cons,List.mem_cons];exact .inr h
    · rw [qn c] at h
      simp only [List.map_cons,List.mem_cons] at h ⊢
      rcases h with h | h
      · exact .inl h
      · exact .inr (qj4 h)
theorem NdK.del {k : α} : ∀ {es : List (α × β)},NdK es→NdK (Yt k es)
  | [],_=>by simp [NdK,Yt]
  | (b,w)::r,h=>by
    unfold NdK at h ⊢
    unfold Yt
    simp only [List.map_cons,List.nodup_cons] at h
    by_cases a : k = b
    · rw [ql a];exact h.2
    · rw [qn a]
      simp only [List.map_cons,List.nodup_cons]
      exact ⟨fun c=>h.1 (qj4 c),NdK.del (es:=r) h.2⟩
theorem qja {z : β} {k : α} : ∀ {es : List (α × β)},k ∉ es.map Prod.fst→Y7 z k es = z
  | [],_=>rfl
  | (b,w)::r,h=>by
    simp only [List.map_cons,List.mem_cons,not_or] at h
    unfold Y7
    rw [qn h.1]
    exact qja h.2
theorem qe7 {z : β} {k k' : α} : ∀ {es : List (α × β)},NdK es→Y7 z k' (Yt k es) = if k' = k then z else Y7 z k' es
  | [],_=>by simp [Yt,Y7]
  | (b,w)::r,h=>by
    unfold NdK at h
    simp only [List.map_cons,List.nodup_cons] at h
    unfold Yt
    by_cases c : k = b
    · subst c
      rw [ql rfl]
      by_cases a : k' = k
      · subst a
        rw [ql rfl];exact qja h.1
      · rw [qn a]
        simp [Y7,a]
    · rw [qn c]
      have d:=qe7 (z:=z) (k:=k) (k':=k') (es:=r) h.2
      unfold Y7
      by_cases a : k' = b
      · subst a
        rw [ql rfl,qn (Ne.symm c),ql rfl]
      · rw [qn a,qn a];exact d
theorem qjb {z v : β} {k k' : α} : ∀ {es : List (α × β)},Y7 z k' (Zg k v es) = if k' = k then v else Y7 z k' es
  | []=>by simp [Y7,Zg]
  | (a,w)::r=>by
    unfold Zg
    by_cases h : k = a
    · subst h
      rw [ql rfl]
      by_cases b : k' = k <;> simp [Y7,b]
    · rw [qn h]
      have c:=qjb (z:=z) (v:=v) (k:=k) (k':=k') (es:=r)
      by_cases b : k' = a
      · subst b
        simp [Y7,Ne.symm h]
      · simp [Y7,b,c]
end
end Go.Sh
namespace Go.Sh
open Go Go.Am
theorem qji : ∀ (n : Nat) (q : List Nat),q.Nodup→(∀ j∈q,j < n)→q.length≤n
  | 0,q,_,h=>by
    cases q with
    | nil=>simp
    | cons a r=>exact absurd (h a qc) q0
  | n + 1,q,hn,h=>by
    have g:=qji n (q.filter fun j=>decide (j < n)) (hn.filter _) fun j b=>by simpa using (List.mem_filter.1 b).2
    have key : ∀ q : List Nat,q.Nodup→(∀ j∈q,j < n + 1)→q.length≤(q.filter fun j=>decide (j < n)).length + (if n∈q then 1 else 0):=by
      intro q
      induction q with
      | nil=>intro _ _;simp
      | cons a r ih=>
        intro hd c;obtain ⟨f,d⟩:=List.nodup_cons.1 hd;have:=ih d fun j b=>c j (by simp [b]);have k:=c a qc;by_cases e : a = n
        · subst e;rw [qn f] at this;rw [ql qc,List.filter_cons_of_neg qc];simp only [List.length_cons];omega
        · rw [List.filter_cons_of_pos (by simpa using (by omega : a < n))];simp only [List.length_cons];split at this
          · rw [ql (by simp;exact .inr (by assumption))];omega
          · omega
    have:=key q hn h
    split at this <;> omega
noncomputable def bxAt (s : List qg) (j : Nat) : qg:=s[j]?.getD q2a
theorem q4k {s : List qg} {j : Nat} (h : j < s.length) : bxAt s j = s[j]:=by unfold bxAt;rw [List.getElem?_eq_getElem h];rfl
open Classical in
structure PI (s : List qg) (i : Nat) (q : List Nat) (es : List (Int × Bool)) : Prop where
  nd : q.Nodup
  lt : ∀ j∈q,j < s.length
  cn : ∀ j∈q,Cn (adjB s) i j
  get : ∀ j,j < s.length→Y7 false (j : Int) es = decide ((∀ k,k < i→¬ Cn (adjB s) k j)∧j ∉ q)
  ndk : NdK es
section
variable {s : List qg} {i : Nat}
theorem PI.len {q : List Nat} {es : List (Int × Bool)} (h : PI s i q es) : q.length≤s.length:=qji _ _ h.nd h.lt
open Classical in
theorem qtf (hs : K1 s = 0) (hr : repI s i) {q : List Nat} {es0 : List (Int × Bool)} {p0 : List qg} {k : Nat} (hk : k < q.length) {es : List (Int × Bool)} (h : PI s i q es) :
    ∃ b,loop (q1y s ((k : Int),es0,p0)) (0,es,q.map (bxAt s)) = some b∧∃ t o,b = (o,(q ++ t).map (bxAt s))∧PI s i (q ++ t) o∧∀ m,m < s.length→adjB s q[k] m→m∈q ++ t:=by
  obtain ⟨hl,hv,ak⟩:=Z6.1 hs;rw [show q.map (bxAt s) = (q ++ ([] : List Nat)).map (bxAt s) by rw [List.append_nil]];refine Zu (f:=q1y s ((k : Int),es0,p0)) (fun n (c : List Nat × List (Int × Bool))=>((n : Int),c.2,(q ++ c.1).map (bxAt s))) s.length (fun n c=>PI s i (q ++ c.1) c.2∧∀ m,m < n→adjB s q[k] m→m∈q ++ c.1) (fun b=>∃ t o,b = (o,(q ++ t).map (bxAt s))∧PI s i (q ++ t) o∧∀ m,m < s.length→adjB s q[k] m→m∈q ++ t) (fun n c g hc=>?_) (fun c hc=>?_) (Nat.zero_le _) (c0:=([],es)) ⟨by simpa using h,fun m z=>absurd z (Nat.not_lt_zero m)⟩
  · obtain ⟨l,h2⟩:=hc;have w:=l.len;have ae : k < (q ++ c.1).length:=by simp;omega
    have p : q[k] < s.length:=h.lt _ (Y3 hk)
    have y : idx ((q ++ c.1).map (bxAt s)) (k : Int) = some s[q[k]]:=by
      rw [K7 (by simpa using ae)];simp only [List.getElem_map,Option.some.injEq];rw [List.getElem_append_left hk,q4k p]
    have x : q4b s[q[k]] s[n] = some (Kp s[q[k]] s[n]):=qlo (hv _ (Y3 p)) (hv _ (Y3 g));have v:=l.get n g;have hw:=w64s g (show s.length≤1000000 by omega);by_cases g1 : (∀ k,k < i→¬ Cn (adjB s) k n)∧n ∉ q ++ c.1
    · rw [Qe g1] at v;by_cases g2 : Kp s[q[k]] s[n] > 0
      · refine .inl ⟨(c.1 ++ [n],Yt (n : Int) c.2),?_,?_,?_⟩
        · simp only [q1y,dlt g,Q1,v,y,K7 g,qm,x,Qe g2,hw];rw [Z4 (by simp at w ⊢;omega)];simp only [qm];rw [← List.append_assoc,List.map_append];simp [q4k g]
        · refine ⟨?_,fun j d=>?_,fun j d=>?_,fun j d=>?_,l.ndk.del⟩
          · rw [← List.append_assoc];rw [List.nodup_append];exact ⟨l.nd,qc,fun a r b hb=>by simp at hb;subst hb;exact fun e=>g1.2 (e ▸ r)⟩
          · rw [← List.append_assoc] at d;rcases List.mem_append.1 d with d | d
            · exact l.lt j d
            · simp at d;subst d;exact g
          · rw [← List.append_assoc] at d;rcases List.mem_append.1 d with d | d
            · exact l.cn j d
            · simp at d;subst d;exact .step (l.cn _ qc) ((qfu p g).2 g2)
          · rw [qe7 l.ndk,l.get j d,← List.append_assoc];by_cases e : j = n
            · subst e;rw [ql rfl,eq_comm,decide_eq_false_iff_not];exact fun h=>h.2 qc
            · rw [qn q0,decide_eq_decide];simp [e]
        · intro m z r;rw [← List.append_assoc];by_cases e : m = n
          · subst e;simp
          · exact List.mem_append_left _ (h2 m q0 r)
      · refine .inl ⟨c,?_,l,fun m z r=>?_⟩
        · simp only [q1y,dlt g,Q1,v,y,K7 g,qm,x,Qm g2,hw,Q3]
        · by_cases e : m = n
          · subst e;exact absurd ((qfu p g).1 r) g2
          · exact h2 m q0 r
    · rw [Qm g1] at v;refine .inl ⟨c,?_,l,fun m z r=>?_⟩
      · simp only [q1y,dlt g,Q1,v,qm,hw,Q3]
      · by_cases e : m = n
        · subst e;have ai : Cn (adjB s) i m:=.step (h.cn _ (Y3 hk)) r;refine Classical.not_not.1 fun u=>g1 ⟨fun k' aj ad=>hr k' aj (ad.trans (ai.symm (qn8 s))),u⟩
        · exact h2 m q0 r
  · exact ⟨_,by simp only [q1y,dnl,Q3],c.1,c.2,rfl,hc.1,hc.2⟩
theorem qte (hs : K1 s = 0) (hr : repI s i) : ∀ (m k : Nat) (q : List Nat) (es : List (Int × Bool)),s.length + 1 - k = m→k≤q.length→PI s i q es→(∀ a (v : a < q.length),a < k→∀ b,adjB s q[a] b→b∈q)→
    ∃ l d,loop (q36 s) ((k : Int),es,q.map (bxAt s)) = some (d,l.map (bxAt s))∧PI s i l d∧(∀ j∈q,j∈l)∧∀ a∈l,∀ b,adjB s a b→b∈l:=by
  intro m;have hl:=(Z6.1 hs).1
  induction m with
  | zero=>
    intro k q es hm hk h _;have:=h.len;omega
  | succ m ih=>
    intro k q es hm hk h x;have w:=h.len;by_cases g : k < q.length
    · obtain ⟨b,e1,t,d,rfl,p1,p2⟩:=qtf (es0:=es) (p0:=q.map (bxAt s)) hs hr g h;have u : decide ((k : Int) < ((q.map (bxAt s)).length : Int)) = true:=Qe (by simp;omega)
      have f : q36 s ((k : Int),es,q.map (bxAt s)) = some (.inl (((k + 1 : Nat) : Int),d,(q ++ t).map (bxAt s))):=by
        simp only [q36,u,Q1,e1,qm,w64s g (show q.length≤1000000 by omega)]
      rw [Y2 f]
      obtain ⟨l,o,f1,f2,z,f4⟩:=ih (k + 1) (q ++ t) d q0 (by simp;omega) p1 (fun a v ad b c=>by
        by_cases e : a = k
        · subst e;rw [List.getElem_append_left g] at c;exact p2 b (qn7 s _ _ c) c
        · rw [List.getElem_append_left q0] at c
          exact List.mem_append_left _ (x a q0 q0 b c))
      exact ⟨l,o,f1,f2,fun j r=>z j (List.mem_append_left _ r),f4⟩
    · have p : decide ((k : Int) < ((q.map (bxAt s)).length : Int)) = false:=Qm (by simp;omega);refine ⟨q,es,Kl (by simp only [q36,p,Q3]),h,fun j r=>r,fun a v b c=>?_⟩;obtain ⟨n,y,rfl⟩:=List.getElem_of_mem v;exact x n y q0 b c
end
open Classical in
theorem qtg (s : List qg) : q9e s = some (qem s):=by
  unfold q9e qem;rw [q42,qm];by_cases hs : K1 s = 0
  rotate_left
  · rw [ql hs,show (K1 s != 0) = true by simpa using hs];rfl
  rw [qn (not_not_intro hs),hs,show ((0 : Int) != 0) = false from rfl,Q3];obtain ⟨hl,hv,ah⟩:=Z6.1 hs
  obtain ⟨es,e1,e2,e3⟩:=Zu (f:=q46 s) (fun k (es : List (Int × Bool))=>((k : Int),es)) s.length (fun k es=>NdK es∧∀ j : Nat,Y7 false (j : Int) es = decide (j < k)) (fun es=>NdK es∧∀ j : Nat,Y7 false (j : Int) es = decide (j < s.length)) (fun k es d n=>by
    refine .inl ⟨Zg (k : Int) true es,by simp only [q46,dlt d,Q1,w64s d (show s.length≤1000000 by omega)],n.1.put,fun j=>?_⟩;rw [qjb,n.2 j];by_cases e : j = k
    · subst e;rw [ql rfl,Qe q0]
    · rw [qn q0,decide_eq_decide];omega) (fun es n=>⟨es,by simp only [q46,dnl,Q3],n⟩) (Nat.zero_le _) (c0:=[]) ⟨by simp [NdK],fun j=>by simp [Y7]⟩
  have e1 : loop (q46 s) (0,[]) = some es:=e1;rw [e1,qm]
  obtain ⟨out,o1,o2⟩:=Zu (f:=q35 s) (fun k (es : List (Int × Bool))=>((k : Int),es,((List.range k).filter fun i=>decide (repI s i)).map fun i=>mrgB 2 (comp s i) [])) s.length (fun k es=>NdK es∧∀ j : Nat,j < s.length→Y7 false (j : Int) es = decide (∀ i,i < k→¬ Cn (adjB s) i j)) (fun out=>out = q5c s) (fun k es d n=>by
    obtain ⟨c1,c2⟩:=n;have hw:=w64s d (show s.length≤1000000 by omega);have w:=c2 k d;by_cases v : repI s k
    · have g : ∀ i,i < k→¬ Cn (adjB s) i k:=v;rw [Qe g] at w
      have hP : PI s k [k] (Yt (k : Int) es):=⟨qc,by simpa using d,by simpa using Cn.refl k,fun j c=>by
        rw [qe7 c1,c2 j c];by_cases e : j = k
        · subst e;rw [ql rfl,eq_comm,decide_eq_false_iff_not];exact fun h=>h.2 qc
        · rw [qn q0,decide_eq_decide];simp [e],c1.del⟩
      obtain ⟨q,u,f1,p,f3,f4⟩:=qte hs v (s.length + 1) 0 [k] _ rfl qc hP (fun a ha h=>absurd h q0)
      have f1 : loop (q36 s) (0,Yt (k : Int) es,[s[k]]) = some (u,q.map (bxAt s)):=by
        rw [← q4k d];exact f1
      have y : ∀ j,j∈q↔Cn (adjB s) k j:=fun j=>⟨p.cn j,fun h=>h.closed (S:=fun j=>j∈q) (fun a b ha aa=>f4 a ha b aa) (f3 k qc)⟩
      have ag:=p.len
      have t : ∀ b,b∈q.map (bxAt s)↔b∈comp s k:=fun b=>by
        unfold comp;rw [qtl,List.mem_map];constructor
        · rintro ⟨j,c,rfl⟩;exact ⟨j,p.lt j c,(y j).1 c,(q4k (p.lt j c)).symm⟩
        · rintro ⟨j,c,z,rfl⟩;exact ⟨j,(y j).2 z,q4k c⟩
      have au:=(qk4 s (Cn (adjB s) k)).length_le;have o:=qrl (l:=q.map (bxAt s)) (m:=comp s k) (by simp;omega) (by show (pick s _).length≤_;omega) t;obtain ⟨_,k2,_⟩:=qtm hs (Cn (adjB s) k)
      have ae : mkB (q.map (bxAt s)) = (mrgB 2 (comp s k) [],0):=by
        have af : ∀ b∈q.map (bxAt s),vB b:=fun b hb=>by
          obtain ⟨j,c,rfl⟩:=List.mem_map.1 hb;rw [q4k (p.lt j c)];exact hv _ (Y3 _)
        unfold mkB;have : (mrgB 2 (comp s k) []).length≤s.length:=k2;rw [qn (by simp;omega),ql af,o,qn q0]
      refine .inl ⟨u,?_,p.ndk,fun j c=>?_⟩
      · have ai : (((List.range k).filter fun i=>decide (repI s i)).map fun i=>mrgB 2 (comp s i) []).length≤k:=by
          rw [List.length_map];exact Nat.le_trans (List.length_filter_le _ _) qc
        simp only [q35,dlt d,Q1,Q3,w,Bool.not_true,K7 d,qm,f1,qbi,ae,hw];rw [Z4 (by simp only [List.length_singleton];omega)];simp only [qm];rw [List.range_succ,List.filter_append,List.map_append];simp [v]
      · rw [p.get j c,decide_eq_decide,y];constructor
        · rintro ⟨z,h2⟩ i hi;by_cases e : i = k
          · subst e;exact h2
          · exact z i q0
        · intro h;exact ⟨fun i hi=>h i q0,h k q0⟩
    · have g : ¬ ∀ i,i < k→¬ Cn (adjB s) i k:=v;rw [Qm g] at w;refine .inl ⟨es,?_,c1,fun j c=>?_⟩
      · simp only [q35,dlt d,Q1,w,Bool.not_false,qm,hw];rw [List.range_succ,List.filter_append,List.map_append];simp [v]
      · rw [c2 j c,decide_eq_decide];obtain ⟨i0,ad⟩:=Classical.not_forall.1 g;obtain ⟨x,r⟩:=Classical.not_imp.1 ad;have r:=Classical.not_not.1 r;constructor
        · intro h i hi;by_cases e : i = k
          · subst e;exact fun n=>h i0 x (r.trans n)
          · exact h i q0
        · exact fun h i hi=>h i q0) (fun es n=>⟨q5c s,by simp only [q35,dnl,Q3];rfl,rfl⟩) (Nat.zero_le _) (c0:=es) ⟨e2,fun j c=>by rw [e3,Qe c];simp⟩
  have o1 : loop (q35 s) (0,es,[]) = some out:=o1;rw [o1,o2];rfl
end Go.Sh
namespace Go.Sh
open Go Go.Am
open Classical in
noncomputable def qet (s : List qg) : List Nat:=(List.range s.length).filter fun i=>decide (repI s i)
theorem qth (s : List qg) : q5c s = (qet s).map fun i=>mrgB 2 (comp s i) []:=rfl
end Go.Sh
namespace Go.Sh
open Go Go.Am
theorem qgd (x y z u v w : Int) : Yl x y z u v w = some (bx x y z u v w):=rfl
def barX (t : Nat) : qg:=bx (2 * (t : Int)) 0 0 (2 * (t : Int) + 1) 60 1
def barY (t : Nat) : qg:=bx 0 (2 * (t : Int)) 0 60 (2 * (t : Int) + 1) 1
def qdj (t u : Nat) : qg:=bx (2 * (t : Int)) (2 * (u : Int)) 0 (2 * (t : Int) + 1) (2 * (u : Int) + 1) 1
def Z5 : List qg:=(List.range 21).map barX
def U5 : List qg:=(List.range 21).map barY
def grid : List qg:=(List.range 21).flatMap fun t=>(List.range 21).map fun u=>qdj t u
theorem qrp : loop q53 (0,[],[]) = some (Z5,U5):=by
  have key:=J1 (f:=q53) (fun k=>((k : Int),(List.range k).map barX,(List.range k).map barY)) 21 (Z5,U5) (fun k a=>by
    have hd : decide ((k : Int) < 21) = true:=Qe q0;simp only [q53,hd,Q1,w64s a (show 21≤1000000 by omega),qgd,qm]
    rw [Q9 (x:=2 * (k : Int)) q0,Q9 (x:=2 * (k : Int) + 1) q0,Z4 (by simp;omega),Z4 (by simp;omega),List.range_succ,List.map_append,List.map_append];rfl) rfl (Nat.zero_le _)
  exact key
theorem qcd : (∀ b∈Z5,vB b)∧isB Z5:=by decide +kernel
theorem qcf : (∀ b∈U5,vB b)∧isB U5:=by decide +kernel
theorem qic : isB grid∧grid.length = 441:=by decide +kernel
theorem qa3 : Z5.length = 21:=by simp [Z5]
theorem qce : U5.length = 21:=by simp [U5]
theorem qqg (x y z : Int) : hasB Z5 x y z↔∃ n,n < 21∧inB (barX n) x y z:=by
  constructor
  · rintro ⟨b,hb,h⟩;obtain ⟨n,a,rfl⟩:=List.mem_map.1 hb;exact ⟨n,List.mem_range.1 a,h⟩
  · rintro ⟨n,a,h⟩;exact ⟨_,List.mem_map.2 ⟨n,List.mem_range.2 a,rfl⟩,h⟩
theorem qqh (x y z : Int) : hasB U5 x y z↔∃ n,n < 21∧inB (barY n) x y z:=by
  constructor
  · rintro ⟨b,hb,h⟩;obtain ⟨n,a,rfl⟩:=List.mem_map.1 hb;exact ⟨n,List.mem_range.1 a,h⟩
  · rintro ⟨n,a,h⟩;exact ⟨_,List.mem_map.2 ⟨n,List.mem_range.2 a,rfl⟩,h⟩
theorem qqf (x y z : Int) : hasB grid x y z↔∃ n m,n < 21∧m < 21∧inB (qdj n m) x y z:=by
  constructor
  · rintro ⟨b,hb,h⟩;obtain ⟨n,c,hb⟩:=List.mem_flatMap.1 hb;obtain ⟨m,a,rfl⟩:=List.mem_map.1 hb;exact ⟨n,m,List.mem_range.1 c,List.mem_range.1 a,h⟩
  · rintro ⟨n,m,c,a,h⟩;exact ⟨_,List.mem_flatMap.2 ⟨n,List.mem_range.2 c,List.mem_map.2 ⟨m,List.mem_range.2 a,rfl⟩⟩,h⟩
theorem qnk (i k : Nat) : ¬ adjB Z5 i k:=by
  rintro ⟨a,b,d,c,f⟩;unfold Z5 at d c;rw [List.getElem?_map] at d c;obtain ⟨n,h,rfl⟩:=Option.map_eq_some_iff.1 d;obtain ⟨m,g,rfl⟩:=Option.map_eq_some_iff.1 c;have:=(qp3 _ _).1 f;simp only [barX,bx] at this;omega
theorem qnl : (qet Z5).length = 21:=by
  have h : ∀ i,repI Z5 i:=fun i j f d=>by
    have : i = j:=d.closed (S:=fun k=>k = j) (fun a b _ c=>absurd c (qnk a b)) rfl;omega
  unfold qet;rw [List.filter_eq_self.2 (fun a _=>by simpa using h a),List.length_range,qa3]
theorem qgh {l m : List qg} (h : l.length≤400) (b : isB m) (c : ∀ x y z,hasB l x y z↔hasB m x y z) (a : m≠l) : K1 l = 8:=by
  have e : mrgB 2 l [] = m:=qaq (by simp;omega) b.can fun x y z=>by rw [q7q,← c];simp [q1k]
  unfold K1;rw [qn q0,e,qn a];split <;> rfl
theorem qqw {kind : Int} {p q out : List qg} (hp : K1 p = 0) (a : K1 q = 0) (b : CanB out) (d : 400 < out.length) (c : ∀ x y z,Y5 kind (hasB p x y z) (hasB q x y z)↔hasB out x y z) : jB kind p q = ([],4):=by
  have g:=(Z6.1 hp).1;have f:=(Z6.1 a).1;have e:=qaq (kind:=kind) (p:=p) (q:=q) q0 b c;unfold jB;rw [qn (by simp [hp]),qn (by simp [a]),e,ql d]
theorem q119 : qaj = some true:=by
  have j : Jf = some Kx:=rfl;have d : K1 Kx = 0:=q4l qw;have r : ({Lo:=({X:=0,Y:=0,Z:=0} : Q2),Hi:=({X:=0,Y:=0,Z:=0} : Q2)} : qg) = q2a:=rfl;have mk : mks 48 401 q2a = some (List.replicate 401 q2a):=rfl;have s : mkB (List.replicate 401 q2a) = ([],4):=by unfold mkB;rw [ql (by rw [List.length_replicate];omega)]
  have p : mkB [bx 0 0 0 1 1 0] = ([],8):=by unfold mkB;rw [qn qw,qn qw]
  have t : hull [] = (q2a,6):=by unfold hull;rw [qn (by simp [qoo]),ql rfl]
  have n4 : place Kx ({Turn:=0,At:=({X:=999999,Y:=0,Z:=0} : Q2)} : Kw) = ([],16):=by
    have e : Kx.map (Zh 0 ⟨999999,0,0⟩) = [bx 999999 0 0 1000001 2 1,bx 999999 0 1 1000000 2 2]:=by
      simp only [Kx,List.map_cons,List.map_nil,Zh,Ys,qnj];rfl
    have a : ¬ ∀ b∈Kx,vB (Zh (Int.toNat 0) ⟨999999,0,0⟩ b):=fun h=>by
      have : ∀ b∈Kx.map (Zh 0 ⟨999999,0,0⟩),vB b:=fun b hb=>by
        obtain ⟨c,d,rfl⟩:=List.mem_map.1 hb;exact h c d
      rw [e] at this;exact absurd (this (bx 999999 0 0 1000001 2 1) qc) qw
    unfold place;rw [qn (by simp [d]),qn (by unfold FOk InV;decide)];exact qn a
  have n5 : place Kx ({Turn:=24,At:=({X:=0,Y:=0,Z:=0} : Q2)} : Kw) = ([],8):=by
    unfold place;rw [qn (by simp [d]),ql (by unfold FOk InV;decide)]
  have u : K1 [bx 0 0 0 1 1 1,bx 0 0 1 1 1 2] = 8:=qgh (m:=[bx 0 0 0 1 1 2]) qw qw (fun x y z=>by simp only [qag,q1k,or_false,inB,bx];omega) qw
  have n6 : jB 2 Kx [bx 0 0 0 1 1 1,bx 0 0 1 1 1 2] = ([],8):=by
    unfold jB;rw [qn (by simp [d]),u,ql qw]
  have n7 : K1 [bx 0 0 1 1 1 2,bx 0 0 0 2 1 1] = 8:=qgh (m:=[bx 0 0 0 2 1 1,bx 0 0 1 1 1 2]) qw qw (fun x y z=>by simp only [qag,q1k,or_false];exact Or.comm) qw;have n8 : K1 [bx 0 0 0 1000001 1 1] = 8:=by unfold K1;rw [qn qw,qn qw]
  have l : K1 [bx (-1000000) (-1000000) (-1000000) 1000000 1000000 1000000] = 0:=q4l qw;have n9 : volume [bx (-1000000) (-1000000) (-1000000) 1000000 1000000 1000000] = (8000000000000000000,0):=by unfold volume;rw [qn (by simp [l])];rfl
  have n10 : q75 [bx (-1000000) (-1000000) (-1000000) 1000000 1000000 1000000] = (24000000000000,0):=by unfold q75;rw [qn (by simp [l])];rfl
  have o : mkB Z5 = (Z5,0):=qao ⟨by rw [qa3];omega,qcd.1,by rw [qa3];omega⟩ qcd.2 fun x y z=>Iff.rfl;have q : mkB U5 = (U5,0):=qao ⟨by rw [qce];omega,qcf.1,by rw [qce];omega⟩ qcf.2 fun x y z=>Iff.rfl;have k : K1 Z5 = 0:=q4l ⟨by rw [qa3];omega,qcd⟩;have v : K1 U5 = 0:=q4l ⟨by rw [qce];omega,qcf⟩
  have n11 : jB 1 Z5 U5 = ([],4):=qqw k v qic.1.can (by rw [qic.2];omega) fun x y z=>by
    rw [qqk,qqg,qqh,qqf];simp only [inB,barX,barY,qdj,bx];constructor
    · rintro ⟨⟨n,a,h⟩,⟨m,f,g⟩⟩;exact ⟨n,m,a,f,q0⟩
    · rintro ⟨n,m,a,f,h⟩;exact ⟨⟨n,a,q0⟩,⟨m,f,q0⟩⟩
  have n12 : qem Z5 = (q5c Z5,0):=qn (not_not_intro k);have n13 : (q5c Z5).length = 21:=by rw [qth,List.length_map,qnl]
  unfold qaj;simp only [r,mk,qgd,qm,qbi,s,p,qyy,t,j,qf7 _ _ (show (0 : Int)≤(({Turn:=0,At:=({X:=999999,Y:=0,Z:=0} : Q2)} : Kw)).Turn by decide),n4,qf7 _ _ (show (0 : Int)≤(({Turn:=24,At:=({X:=0,Y:=0,Z:=0} : Q2)} : Kw)).Turn by decide),n5,qz4,n6,q42,n7,n8,qlk,n9,qli,n10,qrp,o,q,qz1,n11,qtg,n12,n13,qn9];rfl
end Go.Sh
