/- Am15 Am16 Am17 Am18 Am19 Am20 Am21 -/
import Derived.Test.YtlchefooafpdlaaK2
import Derived.RangeFuncRecord
import Derived.RangeFuncNested
import Derived.OrdersIn
import Derived.RangeFuncCalls
namespace Go.Am
open Go
variable {P : Program} {T : Tab}
section
variable {w : World} {Z : Nat→Prop} {inj : Inj}
theorem RelH.newPh {hp : List (Nat × Blk)} {nx : Nat} (hr : RelH w Z inj hp nx) (blk : Blk) (hb : RelB w Z (upd inj nx none) (nx + 1) nx blk) : RelH w Z (upd inj nx none) ((nx,blk)::hp) (nx + 1):=by
  refine ⟨?_,?_,?_,hr.zs,hr.zc⟩
  · intro n b h
    rw [q1q] at h
    by_cases hn : nx = n
    · subst hn;simp at h;subst h;exact ⟨by omega,hb⟩
    · simp only [hn,if_false] at h
      obtain ⟨h1,h2⟩:=hr.blk n b h
      exact ⟨by omega,h2.mono (fun _ _=>rfl) (fun _ h=>h) (Sem.keepBig_of_same rfl) (fun m hm=>q4l _ _ hm) (by omega) h1 (fun _ _ _=>rfl)⟩
  · intro n m b c p q hn hm hlb hlc hp hq hne
    rw [q1q] at hn hm
    by_cases h1 : nx = n
    · subst h1;rw [q2u] at hp;cases hp
    · by_cases h2 : nx = m
      · subst h2;rw [q2u] at hq;cases hq
      · simp only [h1,h2,if_false] at hn hm
        rw [q4l _ _ (hr.blk n b hn).1] at hp
        rw [q4l _ _ (hr.blk m c hm).1] at hq
        exact hr.sep n m b c p q hn hm hlb hlc hp hq hne
  · intro n b p h hl hp
    rw [q1q] at h
    by_cases hn : nx = n
    · subst hn;rw [q2u] at hp;cases hp
    · simp only [hn,if_false] at h
      rw [q4l _ _ (hr.blk n b h).1] at hp
      exact hr.out n b p h hl hp
theorem Ext.newPh {hp : List (Nat × Blk)} {nx : Nat} (hr : RelH w Z inj hp nx) (blk : Blk) : Ext w Z inj hp w Z (upd inj nx none) ((nx,blk)::hp) nx:=by
  refine ⟨Nat.le_refl _,fun _ _ _=>rfl,?_,fun _ c e f h=>⟨c,e,f,h,rfl⟩,fun _ r h=>⟨r,h,rfl⟩,fun _ h=>h,fun _ h=>.inl h,fun n hn=>q4l _ _ hn,rfl,rfl,rfl,fun _=>rfl⟩
  rintro b ⟨n,blk',off',h1,h2,h3⟩
  rw [q1q] at h1
  by_cases hn : nx = n
  · subst hn;rw [q2u] at h3;cases h3
  · simp only [hn,if_false] at h1
    rw [q4l _ _ (hr.blk n blk' h1).1] at h3
    exact .inl ⟨n,blk',off',h1,h2,h3⟩
theorem RelH.move {hp : List (Nat × Blk)} {nx n : Nat} (hr : RelH w Z inj hp nx) {b0 blk : Blk} (hn : find hp n = some b0) (hl0 : live b0 = true) {g off off' : Nat} (hi : inj n = some (g,off)) {old cs : Array Value} {t : TypeId} {fr : Nat × Nat}
    (hg : w.heap[g]? = some (.cells old t fr)) (hs : cs.size = old.size) (hb : RelB (w.setRow g cs) Z (upd inj nx (some (g,off'))) (nx + 1) nx blk) :
    RelH (w.setRow g cs) Z (upd inj nx (some (g,off'))) ((nx,blk)::repl hp n .dead) (nx + 1):=by
  have hzg : ∀ b,Z b→b≠g:=fun b hz e=>hr.out n b0 _ hn hl0 hi (by rw [← e];exact hz)
  have key : ∀ m b,find (repl hp n .dead) m = some b→live b = true→find hp m = some b∧n≠m:=by
    intro m b h hl
    rw [q46] at h
    by_cases hm : n = m
    · subst hm;simp [hn] at h;subst h;simp [live] at hl
    · simp only [hm,if_false] at h;exact ⟨h,hm⟩
  have hlt : ∀ m b,find (repl hp n .dead) m = some b→m < nx:=by
    intro m b h
    rw [q46] at h
    by_cases hm : n = m
    · subst hm;exact (hr.blk n b0 hn).1
    · simp only [hm,if_false] at h;exact (hr.blk m b h).1
  refine ⟨?_,?_,?_,fun b hz=>by simpa using hr.zs b hz,fun b hz=>by rw [setRow_other w g b cs (hzg b hz)];exact hr.zc b hz⟩
  · intro m b h
    rw [q1q] at h
    by_cases hm : nx = m
    · subst hm;simp at h;subst h;exact ⟨by omega,hb⟩
    · simp only [hm,if_false] at h
      refine ⟨by have:=hlt m b h;omega,?_⟩
      by_cases hl : live b = true
      · obtain ⟨h1,h2⟩:=key m b h hl
        obtain ⟨h3,h4⟩:=hr.blk m b h1
        refine h4.mono (fun b hz=>setRow_other w g b cs (hzg b hz)) (fun _ h=>h) (q54 w g old cs t fr hg hs) (fun _ hk=>q4l _ _ hk) (by omega) h3 ?_
        intro p hp' hl'
        exact setRow_other w g p.1 cs (fun e=>hr.sep n m b0 b _ _ hn h1 hl0 hl hi hp' h2 e.symm)
      · have : b = .dead:=by cases b <;> simp_all [live]
        subst this;trivial
  · intro m k b c p q h1 h2 hlb hlc hpp hqq hne
    rw [q1q] at h1 h2
    by_cases hm : nx = m
    · subst hm
      rw [q2u] at hpp;cases hpp
      simp only [hne,if_false] at h2
      obtain ⟨h3,h4⟩:=key k c h2 hlc
      rw [q4l _ _ (hlt k c h2)] at hqq
      exact fun e=>hr.sep n k b0 c (g,off) q hn h3 hl0 hlc hi hqq h4 e
    · simp only [hm,if_false] at h1
      obtain ⟨h3,h4⟩:=key m b h1 hlb
      rw [q4l _ _ (hlt m b h1)] at hpp
      by_cases hk : nx = k
      · subst hk
        rw [q2u] at hqq;cases hqq
        exact fun e=>hr.sep n m b0 b (g,off) p hn h3 hl0 hlb hi hpp h4 e.symm
      · simp only [hk,if_false] at h2
        obtain ⟨h5,h6⟩:=key k c h2 hlc
        rw [q4l _ _ (hlt k c h2)] at hqq
        exact hr.sep m k b c p q h3 h5 hlb hlc hpp hqq hne
  · intro m b p h hl hp' hz
    rw [q1q] at h
    by_cases hm : nx = m
    · subst hm;rw [q2u] at hp';cases hp';exact hr.out n b0 _ hn hl0 hi hz
    · simp only [hm,if_false] at h
      obtain ⟨h1,_⟩:=key m b h hl
      rw [q4l _ _ (hlt m b h)] at hp'
      exact hr.out m b p h1 hl hp' hz
theorem Ext.move {hp : List (Nat × Blk)} {nx n : Nat} (hr : RelH w Z inj hp nx) {b0 blk : Blk} (hn : find hp n = some b0) (hl0 : live b0 = true) {g off off' : Nat} (hi : inj n = some (g,off)) {old cs : Array Value} {t : TypeId} {fr : Nat × Nat}
    (hg : w.heap[g]? = some (.cells old t fr)) (hs : cs.size = old.size) : Ext w Z inj hp (w.setRow g cs) Z (upd inj nx (some (g,off'))) ((nx,blk)::repl hp n .dead) nx:=by
  refine ⟨by simp,?_,?_,q54 w g old cs t fr hg hs,qb4 w g old cs t fr hg,fun _ h=>h,fun _ h=>.inl h,fun m hm=>q4l _ _ hm,rfl,rfl,rfl,qdh w g old cs t fr hg⟩
  · intro b _ hb
    exact setRow_other w g b cs (fun e=>hb (by rw [e];exact ⟨n,b0,off,hn,hl0,hi⟩))
  · rintro b ⟨m,blk',o',h1,h2,h3⟩
    rw [q1q] at h1
    by_cases hm : nx = m
    · subst hm;rw [q2u] at h3;cases h3;exact .inl ⟨n,b0,off,hn,hl0,hi⟩
    · simp only [hm,if_false] at h1
      rw [q46] at h1
      by_cases hk : n = m
      · subst hk;simp [hn] at h1;subst h1;simp [live] at h2
      · simp only [hk,if_false] at h1
        rw [q4l _ _ (hr.blk m blk' h1).1] at h3
        exact .inl ⟨m,blk',o',h1,h2,h3⟩
end
section
variable {w : World} {Z : Nat→Prop} {inj : Inj} {st : AS} {a : Act} {Ds : List Nat}
theorem qo7 {need cap b : Nat} (hg : cap < need) (hr : need * (b * 4)≤room) : Builtin.nextslicecap need cap * b≤281474976710656:=by
  have h1:=Nat.mul_le_mul_right b (Room.nextslicecap_le' hg)
  have h2 : 2 * need * b≤need * (b * 4):=by rw [Nat.mul_comm b 4,← Nat.mul_assoc];exact Nat.mul_le_mul_right b (by omega)
  unfold room at hr;omega
theorem qne {need b : Nat} (hb : b≠0) (hr : need * (b * 4)≤room) : need≤4294967296:=by
  have : need * 1≤need * (b * 4):=Nat.mul_le_mul_left _ (by omega)
  unfold room at hr;omega
theorem qge {t u ty : TypeId} {i : TI} {e e' : TypeId} {ie : TypeInfo} {ze : Value} (_h : RelS w Z inj st a Ds) (hu : P.underlying t = some (.slice e)) (hu' : P.underlying u = some (.slice e')) (g1 : P.info? e = some ie) (g3 : ie.zero = some ze)
    (g6 : ie.size = i.esize) (g7 : i.esize≠0) (g8 : ie.bytes = i.ebytes) (g9 : i.ebytes≠0) (gz : ze.cells.size = i.esize) {hp1 : List (Nat × Blk)} (hh : RelH w Z inj hp1 st.nx) (hext : Ext w Z inj st.hp w Z inj hp1 st.nx)
    {base ad : Option Addr} {cap cap' : Nat} {olds ys : List (List V)} {L0 L1 : List Value} (hl0 : L0.length = olds.length * i.esize) (hr0 : ERel w Z inj st.nx i.esize olds L0.toArray) (hs0 : SrcAt w base L0 olds)
    (hl1 : L1.length = ys.length * i.esize) (hr1 : ERel w Z inj st.nx i.esize ys L1.toArray) (hs1 : SrcAt w ad L1 ys) (hg : cap < olds.length + ys.length) (hroom : (olds.length + ys.length) * (i.ebytes * 4)≤room)
    {b1 : Blk} (hb1 : rowsOf b1 = some (i.esize,olds ++ ys)) :
    ∃ x w' inj',(Builtin.append_ #[t,u] ty #[.slice base olds.length cap,.slice ad ys.length cap']).run P w = .ok x w'∧RelV w' Z inj' (st.nx + 1) (.hs st.nx i.esize 0 (olds.length + ys.length)) x∧RelH w' Z inj' ((st.nx,b1)::hp1) (st.nx + 1)∧
      Ext w Z inj st.hp w' Z inj' ((st.nx,b1)::hp1) st.nx:=by
  have src0:=qe4 (P:=P) (tx:=t) (cap:=cap) g7 hu rfl hl0 hr0 hs0
  have src1:=qe4 (P:=P) (tx:=u) (cap:=cap') g7 hu' rfl hl1 hr1 hs1
  rw [← g6] at src0 src1
  have hsm:=qne g9 hroom
  have hfit:=qo7 hg hroom
  rw [← g8] at hfit
  have hrun:=run_append_grow_src (P:=P) w t u ty e ie ze hu g1 g3 base olds.length cap L0 src0.cellsD (.slice ad ys.length cap') ys.length L1 src1 hg (by omega) hfit
  have hge:=grownCap_ge w (olds.length + ys.length) cap e
  generalize grownCap w (olds.length + ys.length) cap e = C at hrun hge
  generalize hA : (L0 ++ L1).toArray ++ Builtin.zeroCells ze.cells (C - (olds.length + ys.length)) = A at hrun
  have hsame : RelH w.drew Z inj hp1 st.nx:=hh.same rfl
  have hER : ERel w Z inj st.nx i.esize (olds ++ ys) (L0.toArray ++ L1.toArray):=hr0.append hr1
  have mono : ∀ v x,RelV w Z inj st.nx v x→RelV (w.drew.alloc (.cells A e)) Z (upd inj st.nx (some (w.heap.size,0))) (st.nx + 1) v x:=fun v x hv=>
    hv.mono (fun b hz=>q4y w.drew _ (hh.zs b hz)) (fun _ h=>h) (q5i w.drew _) (fun _ hm=>q4l _ _ hm) (by omega)
  refine ⟨_,_,upd inj st.nx (some (w.heap.size,0)),hrun,?_,?_,?_⟩
  · refine .hs (by omega) hge rfl fun _=>⟨w.heap.size,0,q2u _ _ _,by simp,A,e,(0,0),q5p w.drew _,?_⟩
    have h1 : A.size = L0.length + L1.length + (C - (olds.length + ys.length)) * i.esize:=by
      rw [← hA];simp [Builtin.zeroCells,gz]
    rw [h1,hl0,hl1,← Nat.add_mul,← Nat.add_mul]
    simp only [Nat.zero_add]
    exact Nat.mul_le_mul_right _ (by omega)
  · refine hsame.new (.cells A e) b1 0 ?_
    refine q6x hb1 g7 hER.2.1 (.inr ⟨w.heap.size,0,A,e,q2u _ _ _,q5p w.drew _,?_⟩)
    have h9:=(hER.row (B:=Builtin.zeroCells ze.cells (C - (olds.length + ys.length)))).mono mono
    rw [show L0.toArray ++ L1.toArray ++ Builtin.zeroCells ze.cells (C - (olds.length + ys.length)) = A from by rw [← hA];simp] at h9
    exact h9
  · refine hext.trans ?_ (Nat.le_refl _)
    have e1 : Ext w Z inj hp1 w.drew Z inj hp1 st.nx:=Ext.same rfl rfl rfl rfl
    exact e1.trans (Ext.new hsame (.cells A e) b1 0) (Nat.le_refl _)
theorem qpt {t u ty : TypeId} {i : TI} {e e' : TypeId} {ie : TypeInfo} (h : RelS w Z inj st a Ds) (hu : P.underlying t = some (.slice e)) (hu' : P.underlying u = some (.slice e')) (g1 : P.info? e = some ie)
    (g6 : ie.size = i.esize) (g7 : i.esize≠0) {n off len cap cap' b o : Nat} {b0 b1 : Blk} {xs ys : List (List V)} (hb0 : st.blk n = some b0) (hr0 : rowsOf b0 = some (i.esize,xs)) (hle : off + len≤xs.length)
    (hi : inj n = some (b,o)) (hbig : Big w b (o + (off + cap) * i.esize)) (_hlc : len≤cap)
    {ad : Option Addr} {L1 : List Value} (hl1 : L1.length = ys.length * i.esize) (hr1 : ERel w Z inj st.nx i.esize ys L1.toArray) (hs1 : SrcAt w ad L1 ys) (hg : len + ys.length≤cap)
    (hb1 : rowsOf b1 = some (i.esize,(xs.drop off).take len ++ ys)) :
    ∃ x w' inj',(Builtin.append_ #[t,u] ty #[.slice (some ⟨b,o + off * i.esize,none⟩) len cap,.slice ad ys.length cap']).run P w = .ok x w'∧RelV w' Z inj' (st.nx + 1) (.hs st.nx i.esize 0 (len + ys.length)) x∧
      RelH w' Z inj' ((st.nx,b1)::repl st.hp n .dead) (st.nx + 1)∧Ext w Z inj st.hp w' Z inj' ((st.nx,b1)::repl st.hp n .dead) st.nx:=by
  have src1:=qe4 (P:=P) (tx:=u) (cap:=cap') g7 hu' rfl hl1 hr1 hs1
  obtain ⟨q1,q2,q3⟩:=q95 (h.heap.blk n b0 hb0).2 hr0
  rcases q3 with ⟨_,q4⟩ | ⟨b',o',arr,ty',q3,q4,q5⟩
  · rw [hi] at q4;cases q4
  rw [hi] at q3;cases q3
  have hlive : live b0 = true:=by cases b0 <;> simp_all [rowsOf,live]
  have hsz : o + (off + cap) * i.esize≤arr.size:=by
    obtain ⟨c,e2,f,k1,k2⟩:=hbig
    rw [q4] at k1;cases k1;exact k2
  have hlenL : L1.length = ys.length * i.esize:=hl1
  have hmul : (len + ys.length) * i.esize≤cap * i.esize:=Nat.mul_le_mul_right _ hg
  rw [Nat.add_mul] at hmul hsz
  have hstart : o + off * i.esize + len * i.esize + L1.length≤arr.size:=by omega
  have hst:=run_storeCells_at P b (o + off * i.esize + len * i.esize) ty' L1 0 arr w q4 (by simpa using hstart) (hr1.one g7)
  simp only [Nat.add_zero] at hst
  have hsp : (arr.toList.take (o + off * i.esize + len * i.esize) ++ L1 ++ arr.toList.drop (o + off * i.esize + len * i.esize + L1.length)).toArray = (splice arr.toList (o + off * i.esize + len * i.esize) L1).toArray:=rfl
  rw [hsp] at hst
  have hrun:=qcv (P:=P) (w:=w) (ty:=ty) hu g1 (base:=some ⟨b,o + off * i.esize,none⟩) (sLen:=len) (sCap:=cap) (x:=.slice ad ys.length cap') (n:=ys.length) (news:=L1) (by rw [g6];exact src1) hg
    (w':=w.setRow b (splice arr.toList (o + off * i.esize + len * i.esize) L1).toArray) (by show (storeCells ((⟨b,o + off * i.esize,none⟩ : Addr).add (len * ie.size)) L1).run P w = _;rw [q5x,g6];exact hst)
  have hfitL : o + off * i.esize + len * i.esize + L1.length≤arr.toList.length:=by simpa using hstart
  have hasz : (splice arr.toList (o + off * i.esize + len * i.esize) L1).toArray.size = arr.size:=by simp [q68 _ _ _ hfitL]
  have hz : ∀ b1,Z b1→(w.setRow b (splice arr.toList (o + off * i.esize + len * i.esize) L1).toArray).heap[b1]? = w.heap[b1]?:=fun b1 hz1=>
    setRow_other w b b1 _ (fun e=>h.heap.out n b0 _ hb0 hlive hi (by rw [← e];exact hz1))
  have hkb:=q54 w b arr _ ty' (0,0) q4 hasz
  have mono : ∀ v x,RelV w Z inj st.nx v x→RelV (w.setRow b (splice arr.toList (o + off * i.esize + len * i.esize) L1).toArray) Z (upd inj st.nx (some (b,o + off * i.esize))) (st.nx + 1) v x:=fun v x hv=>
    hv.mono hz (fun _ h=>h) hkb (fun _ hm=>q4l _ _ hm) (by omega)
  have hlen : ((xs.drop off).take len).length = len:=by simp;omega
  refine ⟨_,_,upd inj st.nx (some (b,o + off * i.esize)),hrun,?_,?_,Ext.move h.heap hb0 hlive hi q4 hasz⟩
  · refine .hs (by omega) hg rfl fun _=>⟨b,o + off * i.esize,q2u _ _ _,by simp,_,_,_,setRow_heap w b _ _ _ _ q4,?_⟩
    rw [hasz];simp only [Nat.zero_add];omega
  · refine h.heap.move hb0 hlive hi q4 hasz (q6x hb1 g7 ?_ (.inr ⟨b,o + off * i.esize,_,ty',q2u _ _ _,setRow_heap w b _ _ _ _ q4,?_⟩))
    · intro j x hx
      rw [List.getElem?_append] at hx
      split at hx
      · exact qcu q2 j x hx
      · exact hr1.2.1 _ _ hx
    · intro j x j' d hx hd
      rw [List.getElem?_toArray,q50 _ _ _ _ hfitL]
      rw [List.getElem?_append] at hx
      split at hx
      · rename_i hj
        rw [hlen] at hj
        have hxl:=qcu q2 j x hx
        have hj' : j' < i.esize:=by have:=q1i hd;omega
        have hc:=q9u hj hj'
        rw [if_neg (by omega)]
        rw [List.getElem?_take] at hx
        rw [if_pos hj,List.getElem?_drop] at hx
        obtain ⟨k1,c,k2,k3⟩:=q5 _ x j' d hx hd
        refine ⟨k1,c,?_,mono _ _ k3⟩
        rw [Nat.add_mul] at k2
        rw [Array.getElem?_toList,← k2];congr 1;omega
      · rename_i hj
        rw [hlen] at hj hx
        obtain ⟨k1,c,k2,k3⟩:=hr1.2.2 _ x j' d hx hd
        have hlt:=q1i hx
        have hxl:=hr1.2.1 _ x hx
        have hj' : j' < i.esize:=by have:=q1i hd;omega
        have hc:=q9u hlt hj'
        have he : j * i.esize = len * i.esize + (j - len) * i.esize:=by rw [← Nat.add_mul];congr 1;omega
        rw [if_pos (by omega)]
        refine ⟨k1,c,?_,mono _ _ k3⟩
        rw [List.getElem?_toArray] at k2
        rw [← k2];congr 1;omega
theorem qo8 {t u ty : TypeId} {i j : TI} {sv xv v : V} {vs vx : Value} {st1 : AS} (h : RelS w Z inj st a Ds) (ht : tiOf P t = some i) (hu : tiOf P u = some j) (hik : i.kind = .slice) (hjk : j.kind = .slice) (hf : esFit i.esize xv = true)
    (hsr : RelV w Z inj st.nx sv vs) (hxr : RelV w Z inj st.nx xv vx) (ha : appendV st i sv xv = some (v,st1)) :
    ∃ x w' inj',(Builtin.append_ #[t,u] ty #[vs,vx]).run P w = .ok x w'∧RelV w' Z inj' st1.nx v x∧RelH w' Z inj' st1.hp st1.nx∧Ext w Z inj st.hp w' Z inj' st1.hp st.nx∧st1.sl = st.sl∧st.nx≤st1.nx:=by
  obtain ⟨info,d,z,k⟩:=q5l ht
  obtain ⟨info',d',z',k'⟩:=q5l hu
  have hk:=k.kind
  have hk':=k'.kind
  unfold KindOk at hk hk'
  simp only [hik,hjk] at hk hk'
  obtain ⟨e,ie,de,ze,rfl,g1,g2,g3,g4,g5,g6,g7,g8,g9,_⟩:=hk
  obtain ⟨e',_,_,_,rfl,_⟩:=hk'
  have gz : ze.cells.size = i.esize:=by have:=(qae g4).1;simp at this;omega
  have nilcase : ∀ ys b1,conts st xv = some ys→vs = .slice none 0 0→rowsOf b1 = some (i.esize,ys)→ys.length * (i.ebytes * 4)≤room→ys.length≠0→
      ∃ x w' inj',(Builtin.append_ #[t,u] ty #[vs,vx]).run P w = .ok x w'∧RelV w' Z inj' (st.nx + 1) (.hs st.nx i.esize 0 ys.length) x∧RelH w' Z inj' ((st.nx,b1)::st.hp) (st.nx + 1)∧Ext w Z inj st.hp w' Z inj' ((st.nx,b1)::st.hp) st.nx:=by
    rintro ys b1 hc rfl hr hroom hne
    obtain ⟨ad,cap',L1,rfl,hl1,hr1,hs1⟩:=qau h hxr hc hf g7
    have:=qge (P:=P) (ty:=ty) h k.und k'.und g1 g3 g6 g7 g8 g9 gz h.heap Ext.refl (base:=none) (cap:=0) (olds:=[]) (L0:=[]) (by simp) .nil (rfl : SrcAt w none [] []) (cap':=cap') hl1 hr1 hs1 (by simp;omega) (by simpa using hroom) (b1:=b1) (by simpa using hr)
    simpa using this
  have nilnil : ∀ ys,conts st xv = some ys→vs = .slice none 0 0→ys.length = 0→(Builtin.append_ #[t,u] ty #[vs,vx]).run P w = .ok (.slice none 0 0) w:=by
    rintro ys hc rfl h0
    obtain ⟨ad,cap',L1,rfl,hl1,hr1,hs1⟩:=qau h hxr hc hf g7
    have src1:=qe4 (P:=P) (tx:=u) (cap:=cap') g7 k'.und rfl hl1 hr1 hs1
    have:=qcv (P:=P) (w:=w) (ty:=ty) k.und g1 (base:=none) (sLen:=0) (sCap:=0) (by rw [g6];exact src1) (by omega) (w':=w) rfl
    simpa [h0] using this
  have hscase : ∀ n off len xs ys b0 b1,sv = .hs n i.esize off len→st.blk n = some b0→rowsOf b0 = some (i.esize,xs)→off + len≤xs.length→conts st xv = some ys→rowsOf b1 = some (i.esize,(xs.drop off).take len ++ ys)→
      (len + ys.length) * (i.ebytes * 4)≤room→
      ∃ x w' inj',(Builtin.append_ #[t,u] ty #[vs,vx]).run P w = .ok x w'∧RelV w' Z inj' (st.nx + 1) (.hs st.nx i.esize 0 (len + ys.length)) x∧RelH w' Z inj' ((st.nx,b1)::repl st.hp n .dead) (st.nx + 1)∧
        Ext w Z inj st.hp w' Z inj' ((st.nx,b1)::repl st.hp n .dead) st.nx:=by
    rintro n off len xs ys b0 b1 rfl hb0 hr0 hle hc hr1' hroom
    obtain ⟨ad,cap',L1,rfl,hl1,hr1,hs1⟩:=qau h hxr hc hf g7
    have src1:=qe4 (P:=P) (tx:=u) (cap:=cap') g7 k'.und rfl hl1 hr1 hs1
    have hlen : ((xs.drop off).take len).length = len:=by simp;omega
    obtain ⟨q1,q2,q3⟩:=q95 (h.heap.blk n b0 hb0).2 hr0
    have hdrop : RelH w Z inj (repl st.hp n .dead) st.nx:=h.heap.drop
    have hextd : Ext w Z inj st.hp w Z inj (repl st.hp n .dead) st.nx:=Ext.drop
    have ph : len = 0→ys.length = 0→RelH w Z (upd inj st.nx none) ((st.nx,b1)::repl st.hp n .dead) (st.nx + 1)∧Ext w Z inj st.hp w Z (upd inj st.nx none) ((st.nx,b1)::repl st.hp n .dead) st.nx:=by
      intro h1 h2
      have hnil : (xs.drop off).take len ++ ys = []:=by subst h1;simp [List.eq_nil_of_length_eq_zero h2]
      refine ⟨hdrop.newPh b1 (q6x hr1' g7 (by rw [hnil];simp) (.inl ⟨hnil,q2u _ _ _⟩)),hextd.trans (Ext.newPh hdrop b1) (Nat.le_refl _)⟩
    cases hsr with
    | hsnil hm=>
      by_cases h0 : ys.length = 0
      · obtain ⟨p1,p2⟩:=ph rfl h0
        have:=qcv (P:=P) (w:=w) (ty:=ty) k.und g1 (base:=none) (sLen:=0) (sCap:=0) (by rw [g6];exact src1) (by omega) (w':=w) rfl
        refine ⟨_,w,_,this,?_,p1,p2⟩
        simp only [Nat.zero_add,h0]
        exact .hsnil (by omega)
      · have:=qge (P:=P) (ty:=ty) h k.und k'.und g1 g3 g6 g7 g8 g9 gz hdrop hextd (base:=none) (cap:=0) (olds:=[]) (L0:=[]) (by simp) .nil (rfl : SrcAt w none [] []) (cap':=cap') hl1 hr1 hs1 (by simp;omega) (by simpa using hroom) (b1:=b1) (by simpa using hr1')
        simpa using this
    | @hs _ _ _ _ cap adr hm hcl hsp hcap=>
      by_cases hg : len + ys.length≤cap
      · by_cases hc0 : cap = 0
        · obtain ⟨p1,p2⟩:=ph (by omega) (by omega)
          have hL : L1 = []:=List.eq_nil_of_length_eq_zero (by rw [hl1,show ys.length = 0 by omega];simp)
          have:=qcv (P:=P) (w:=w) (ty:=ty) k.und g1 (base:=some adr) (sLen:=len) (sCap:=cap) (by rw [g6];exact src1) hg (w':=w) (by subst hL;show (storeCells _ []).run P w = _;simp [storeCells])
          exact ⟨_,w,_,this,.hs (by omega) hg hsp (fun h=>absurd hc0 h),p1,p2⟩
        · obtain ⟨b,o,hi,rfl,hbig⟩:=hcap hc0
          exact qpt (P:=P) (ty:=ty) h k.und k'.und g1 g6 g7 hb0 hr0 hle hi hbig hcl (cap':=cap') hl1 hr1 hs1 hg hr1'
      · have hold : ∃ L0 : List Value,L0.length = ((xs.drop off).take len).length * i.esize∧ERel w Z inj st.nx i.esize ((xs.drop off).take len) L0.toArray∧SrcAt w (some adr) L0 ((xs.drop off).take len):=by
          by_cases h0 : len = 0
          · subst h0
            exact ⟨[],by simp,by simpa using ERel.nil,fun k u hu=>by simp at hu⟩
          · obtain ⟨b,o,hi,rfl,hbig⟩:=hcap (by omega)
            rcases q3 with ⟨_,q4⟩ | ⟨b',o',arr,ty',q3,q4,q5⟩
            · rw [hi] at q4;cases q4
            · rw [hi] at q3;cases q3
              obtain ⟨L,l1,l2,l3⟩:=qgd (w:=w) (Z:=Z) (inj:=inj) (nx:=st.nx) (b:=b) (o:=o + off * i.esize) (xs:=(xs.drop off).take len) g7 (qcu q2) (q5.cells q4)
              exact ⟨L,l1,l3,fun k u hu=>by rw [q5x];exact l2 k u hu⟩
        obtain ⟨L0,a1,a2,a3⟩:=hold
        have:=qge (P:=P) (ty:=ty) h k.und k'.und g1 g3 g6 g7 g8 g9 gz hdrop hextd (base:=some adr) (cap:=cap) a1 a2 a3 (cap':=cap') hl1 hr1 hs1 (by rw [hlen];omega) (by rw [hlen];exact hroom) (b1:=b1) hr1'
        rw [hlen] at this
        exact this
  cases sv <;> simp only [appendV,reduceCtorEq] at ha
  case d x=>
    cases x <;> simp only [reduceCtorEq] at ha
    cases hsr with | d hsr=>
    cases hsr
    cases hcd : contsD st xv with
    | some ys=>
      simp only [hcd] at ha
      split at ha <;> try simp at ha
      rename_i hroom
      have hcv:=qb5 hcd
      by_cases h0 : ys = []
      · rw [if_pos h0] at ha;simp at ha;obtain ⟨rfl,rfl⟩:=ha
        exact ⟨_,w,inj,nilnil _ hcv rfl (by simpa using h0),.d .nilsl,h.heap,.refl,rfl,Nat.le_refl _⟩
      · rw [if_neg h0] at ha;simp at ha;obtain ⟨rfl,rfl⟩:=ha
        have:=nilcase _ (.dat i.esize ys) hcv rfl rfl (by simpa using hroom) (by simpa using h0)
        obtain ⟨x,w',inj',h1,h2,h3,h4⟩:=this
        exact ⟨x,w',inj',h1,by simpa [AS.new] using h2,h3,h4,rfl,by simp [AS.new]⟩
    | none=>
      simp only [hcd] at ha
      cases hcv : conts st xv with
      | none=>simp [hcv] at ha
      | some ys=>
        simp only [hcv] at ha
        split at ha <;> try simp at ha
        rename_i hroom
        by_cases h0 : ys = []
        · rw [if_pos h0] at ha;simp at ha;obtain ⟨rfl,rfl⟩:=ha
          exact ⟨_,w,inj,nilnil _ hcv rfl (by simpa using h0),.d .nilsl,h.heap,.refl,rfl,Nat.le_refl _⟩
        · rw [if_neg h0] at ha;simp at ha;obtain ⟨rfl,rfl⟩:=ha
          obtain ⟨x,w',inj',h1,h2,h3,h4⟩:=nilcase _ (.cel i.esize ys) hcv rfl rfl hroom (by simpa using h0)
          exact ⟨x,w',inj',h1,by simpa [AS.new] using h2,h3,h4,rfl,by simp [AS.new]⟩
  case hs n es off len=>
    split at ha
    · rename_i k0 xs ys hb hcd
      split at ha <;> simp at ha
      rename_i hcond
      obtain ⟨c1,rfl,c3,rfl⟩:=hcond
      obtain ⟨rfl,rfl⟩:=ha
      have:=hscase n off len (xs.map (·.map .d)) (ys.map (·.map .d)) _ (.dat i.esize ((xs.drop off).take len ++ ys)) rfl hb rfl (by simpa using c1) (qb5 hcd) (by simp [rowsOf,List.map_take,List.map_drop]) (by simpa using c3)
      obtain ⟨x,w',inj',h1,h2,h3,h4⟩:=this
      exact ⟨x,w',inj',h1,by simpa [AS.new,AS.setBlk] using h2,h3,h4,rfl,by simp [AS.new,AS.setBlk]⟩
    · rename_i k0 xs hb hcd
      split at ha <;> try simp at ha
      rename_i ys hcv
      obtain ⟨⟨c1,rfl,c3,rfl⟩,rfl,rfl⟩:=ha
      have:=hscase n off len (xs.map (·.map .d)) ys _ (.cel i.esize ((((xs.map (·.map V.d)).drop off).take len) ++ ys)) rfl hb rfl (by simpa using c1) hcv rfl c3
      obtain ⟨x,w',inj',h1,h2,h3,h4⟩:=this
      exact ⟨x,w',inj',h1,by simpa [AS.new,AS.setBlk] using h2,h3,h4,rfl,by simp [AS.new,AS.setBlk]⟩
    · rename_i k0 xs hb
      split at ha <;> try simp at ha
      rename_i ys hcv
      obtain ⟨⟨c1,rfl,c3,rfl⟩,rfl,rfl⟩:=ha
      have:=hscase n off len xs ys _ (.cel i.esize ((xs.drop off).take len ++ ys)) rfl hb rfl c1 hcv rfl c3
      obtain ⟨x,w',inj',h1,h2,h3,h4⟩:=this
      exact ⟨x,w',inj',h1,by simpa [AS.new,AS.setBlk] using h2,h3,h4,rfl,by simp [AS.new,AS.setBlk]⟩
    · simp at ha
end
end Go.Am
namespace Go.Am
open Go
variable {P : Program} {T : Tab}
section
variable {w : World} {Z : Nat→Prop} {inj : Inj} {nx : Nat}
theorem RowV.spliceRows {arr : Array Value} {o es off : Nat} {xs ys : List (List V)} {L : List Value} (h : RowV w Z inj nx arr o es xs) (hl : ∀ (i : Nat) (x : List V),xs[i]? = some x→x.length = es) (hy : ERel w Z inj nx es ys L.toArray)
    (hle : off + ys.length≤xs.length) (hfit : o + off * es + L.length≤arr.size) : RowV w Z inj nx (splice arr.toList (o + off * es) L).toArray o es (splice xs off ys):=by
  have hL : L.length = ys.length * es:=by simpa using hy.1
  intro i x j d hx hd
  rw [q50 _ _ _ _ hle] at hx
  rw [List.getElem?_toArray,q50 _ _ _ _ (by simpa using hfit)]
  by_cases hi : off≤i∧i < off + ys.length
  · rw [if_pos hi] at hx
    obtain ⟨h1,c,h2,h3⟩:=hy.2.2 _ x j d hx hd
    have hj : j < es:=by have:=q1i hd;have:=hy.2.1 _ x hx;omega
    have hc:=q9u (q1i hx) hj
    have he : i * es = off * es + (i - off) * es:=by rw [← Nat.add_mul];congr 1;omega
    rw [if_pos (by omega)]
    refine ⟨h1,c,?_,h3⟩
    rw [List.getElem?_toArray] at h2
    rw [← h2];congr 1;omega
  · rw [if_neg hi] at hx
    obtain ⟨h1,c,h2,h3⟩:=h i x j d hx hd
    have hj : j < es:=by have:=q1i hd;have:=hl _ x hx;omega
    refine ⟨h1,c,?_,h3⟩
    rw [if_neg ?_]
    · simpa using h2
    · intro hc
      by_cases h4 : i < off
      · have:=q9u h4 hj;omega
      · have h5 : (off + ys.length) * es≤i * es:=Nat.mul_le_mul_right _ (by omega)
        rw [Nat.add_mul] at h5;omega
theorem ERel.take {es m : Nat} {xs : List (List V)} {L : List Value} (h : ERel w Z inj nx es xs L.toArray) (hm : m≤xs.length) : ERel w Z inj nx es (xs.take m) (L.take (m * es)).toArray:=by
  obtain ⟨h1,h2,h3⟩:=h
  simp only [List.size_toArray] at h1
  have:=Nat.mul_le_mul_right es hm
  refine ⟨by simp;rw [Nat.min_eq_left hm];omega,?_,?_⟩
  · intro i x hx
    rw [List.getElem?_take] at hx
    split at hx
    · exact h2 _ _ hx
    · simp at hx
  · intro i x j d hx hd
    rw [List.getElem?_take] at hx
    split at hx
    · rename_i hi
      obtain ⟨h4,c,h5,h6⟩:=h3 i x j d hx hd
      have hc:=q9u hi (show j < es by have:=q1i hd;have:=h2 _ x hx;omega)
      refine ⟨h4,c,?_,h6⟩
      rw [List.getElem?_toArray] at h5 ⊢
      rw [List.getElem?_take,if_pos hc];exact h5
    · simp at hx
end
section
variable {w : World} {Z : Nat→Prop} {inj : Inj} {st : AS} {a : Act} {Ds : List Nat}
theorem qr0 {t u ty : TypeId} {i j : TI} {sv xv v : V} {vs vx : Value} {st1 : AS} (h : RelS w Z inj st a Ds) (ht : tiOf P t = some i) (_hu : tiOf P u = some j) (hik : i.kind = .slice) (_hjk : j.kind = .slice) (hfs : esFit i.esize sv = true) (hf : esFit i.esize xv = true)
    (hsr : RelV w Z inj st.nx sv vs) (hxr : RelV w Z inj st.nx xv vx) (ha : copyV st sv xv = some (v,st1)) :
    ∃ x w' inj',(Builtin.copy_ #[t,u] ty #[vs,vx]).run P w = .ok x w'∧RelV w' Z inj' st1.nx v x∧RelH w' Z inj' st1.hp st1.nx∧Ext w Z inj st.hp w' Z inj' st1.hp st.nx∧st1.sl = st.sl∧st.nx≤st1.nx:=by
  obtain ⟨info,d,z,k⟩:=q5l ht
  have hk:=k.kind
  unfold KindOk at hk
  simp only [hik] at hk
  obtain ⟨e,ie,de,ze,rfl,g1,g2,g3,g4,g5,g6,g7,g8,g9,_⟩:=hk
  cases sv <;> simp only [copyV,reduceCtorEq] at ha
  rename_i n es off len
  have hes:=Nat.eq_of_beq_eq_true hfs
  subst hes
  split at ha <;> try simp at ha
  rename_i k0 xs ys hb hcd
  obtain ⟨⟨hle,rfl⟩,rfl,rfl⟩:=ha
  obtain ⟨ad,cap',L1,rfl,hl1,hr1,hs1⟩:=qau h hxr (qb5 hcd) hf g7
  rw [List.length_map] at hl1 ⊢
  let m:=min ys.length len
  have hm : m = min ys.length len:=rfl
  rw [← hm]
  obtain ⟨q1,q2,q3⟩:=q95 (h.heap.blk n _ hb).2 rfl
  have hb0l : (xs.map (·.map V.d)).length = xs.length:=by simp
  have hmul : m * i.esize≤ys.length * i.esize:=Nat.mul_le_mul_right _ (by omega)
  have hcells : (Builtin.firstCells i.esize m (.slice ad ys.length cap')).run P w = .ok (L1.take (m * i.esize)).toArray w:=by
    cases ad with
    | none=>
      have hnil : ys.map (·.map V.d) = []:=hs1
      have : ys = []:=by simpa using hnil
      subst this
      simp at hl1;subst hl1
      simp [Builtin.firstCells]
    | some p=>
      have:=run_loadCells_list (P:=P) w p (L1.take (m * i.esize)) (fun k u hu=>by
        rw [List.getElem?_take] at hu
        split at hu
        · exact hs1 k u hu
        · simp at hu)
      rw [List.length_take,Nat.min_eq_left (by omega)] at this
      simpa [Builtin.firstCells] using this
  have hrest : ∀ base dlen dcap,dlen = len→vs = .slice base dlen dcap→∀ w',(match base with | some p=>(storeCells p (L1.take (m * i.esize))).run P w = .ok () w' | none=>w' = w)→
      (Builtin.copy_ #[t,u] ty #[vs,.slice ad ys.length cap']).run P w = .ok (.int .i64 m) w':=by
    rintro base dlen dcap rfl rfl w' hst
    have hc2:=hcells
    rw [← g6] at hc2
    have hmin : Nat.min ys.length dlen = m:=rfl
    cases base with
    | none=>
      subst hst
      simp [Builtin.copy_,run_underlying k.und,Builtin.lenOf,q47 g1,goInt,hmin,hc2]
    | some p=>
      have hst' : (storeCells p (L1.take (m * i.esize))).run P w = .ok () w':=hst
      rw [← g6] at hst'
      simp [Builtin.copy_,run_underlying k.und,Builtin.lenOf,q47 g1,hst',goInt,hmin,hc2]
  have hlive : live (.dat i.esize xs) = true:=rfl
  have same : m = 0→RelH w Z inj (repl st.hp n (.dat i.esize (splice xs off (ys.take m)))) st.nx∧Ext w Z inj st.hp w Z inj (repl st.hp n (.dat i.esize (splice xs off (ys.take m)))) st.nx:=by
    intro h0
    have hsp : splice xs off (ys.take m) = xs:=by rw [h0];simp [splice]
    rw [hsp]
    have hfind : ∀ q,find (repl st.hp n (.dat i.esize xs)) q = find st.hp q:=by
      intro q
      rw [q46]
      by_cases hq : n = q
      · subst hq;have : find st.hp n = some (.dat i.esize xs):=hb;simp [this]
      · simp [hq]
    constructor
    · exact ⟨fun q b hq=>h.heap.blk q b (by rw [hfind] at hq;exact hq),fun q r b c p' q' h1 h2=>h.heap.sep q r b c p' q' (by rw [hfind] at h1;exact h1) (by rw [hfind] at h2;exact h2),fun q b p' h1=>h.heap.out q b p' (by rw [hfind] at h1;exact h1),h.heap.zs,h.heap.zc⟩
    · exact {Ext.refl (w:=w) (Z:=Z) (inj:=inj) (hp:=st.hp) (pin:=st.nx) with imm:=fun b hb=>by obtain ⟨q,blk,o,h1,h2,h3⟩:=hb;rw [hfind] at h1;exact .inl ⟨q,blk,o,h1,h2,h3⟩}
  have hint : ∀ w' inj' nx',RelV w' Z inj' nx' (.d (.int .i64 ((min ys.length len : Nat) : Int))) (.int .i64 (m : Nat)):=fun _ _ _=>.d (.int _ _)
  by_cases h0 : m = 0
  · obtain ⟨s1,s2⟩:=same h0
    cases hsr with
    | hsnil=>exact ⟨_,w,inj,hrest none _ _ rfl rfl w rfl,hint _ _ _,s1,s2,rfl,Nat.le_refl _⟩
    | @hs _ _ _ _ cap adr hn' hlc _ hcap=>exact ⟨_,w,inj,hrest (some adr) _ _ rfl rfl w (by show (storeCells _ _).run P w = _;rw [h0];simp [storeCells]),hint _ _ _,s1,s2,rfl,Nat.le_refl _⟩
  · cases hsr with
    | hsnil=>omega
    | @hs _ _ _ _ cap adr hn' hlc _ hcap=>
      obtain ⟨b,o,hi,rfl,hbig⟩:=hcap (by omega)
      rcases q3 with ⟨_,q4⟩ | ⟨b',o',arr,ty',q3,q4,q5⟩
      · rw [hi] at q4;cases q4
      rw [hi] at q3;cases q3
      have hL : (L1.take (m * i.esize)).length = m * i.esize:=by rw [List.length_take,Nat.min_eq_left (by omega)]
      have hERm:=hr1.take (m:=m) (by simp;omega)
      have hsz : o + (off + cap) * i.esize≤arr.size:=by
        obtain ⟨c,e2,f,k1,k2⟩:=hbig
        rw [q4] at k1;cases k1;exact k2
      have hmc : m * i.esize≤cap * i.esize:=Nat.mul_le_mul_right _ (by omega)
      rw [Nat.add_mul] at hsz
      have hst:=run_storeCells_at P b (o + off * i.esize) ty' (L1.take (m * i.esize)) 0 arr w q4 (by rw [hL];omega) (hERm.one g7)
      simp only [Nat.add_zero] at hst
      have hsp : (arr.toList.take (o + off * i.esize) ++ L1.take (m * i.esize) ++ arr.toList.drop (o + off * i.esize + (L1.take (m * i.esize)).length)).toArray = (splice arr.toList (o + off * i.esize) (L1.take (m * i.esize))).toArray:=rfl
      rw [hsp] at hst
      have hfitL : o + off * i.esize + (L1.take (m * i.esize)).length≤arr.toList.length:=by rw [hL];simp;omega
      have hasz : (splice arr.toList (o + off * i.esize) (L1.take (m * i.esize))).toArray.size = arr.size:=by simp only [List.size_toArray];rw [q68 _ _ _ hfitL];simp
      have hz : ∀ b1,Z b1→(w.setRow b (splice arr.toList (o + off * i.esize) (L1.take (m * i.esize))).toArray).heap[b1]? = w.heap[b1]?:=fun b1 hz1=>
        setRow_other w b b1 _ (fun e=>h.heap.out n _ _ hb hlive hi (by rw [← e];exact hz1))
      have hkb:=q54 w b arr _ ty' (0,0) q4 hasz
      have hyl : (ys.take m).length = m:=by rw [List.length_take,Nat.min_eq_left (by omega)]
      refine ⟨_,_,inj,hrest (some ⟨b,o + off * i.esize,none⟩) _ _ rfl rfl _ hst,hint _ _ _,?_,Ext.set h.heap hb hlive hi q4 hasz,rfl,Nat.le_refl _⟩
      refine h.heap.set hb hlive hi q4 hasz (q6x (es:=i.esize) (xs:=splice (xs.map (·.map V.d)) off ((ys.map (·.map V.d)).take m)) ?_ g7 ?_ (.inr ⟨b,o,_,ty',hi,setRow_heap w b _ _ _ _ q4,?_⟩))
      · simp only [rowsOf,splice,List.map_append,List.map_take,List.map_drop,Option.some.injEq,Prod.mk.injEq,true_and]
        rw [List.length_take,List.length_take,List.length_map]
      · intro i' x' hx'
        rw [q50 _ _ _ _ (by simp;omega)] at hx'
        split at hx'
        · exact hERm.2.1 _ _ hx'
        · exact q2 _ _ hx'
      · refine (q5.spliceRows q2 hERm (by simp;omega) (by rw [hL];omega)).mono fun v x hr=>hr.mono hz (fun _ h=>h) hkb (fun _ _=>rfl) (Nat.le_refl _)
theorem qpu {t ty : TypeId} {i : TI} {sv v : V} {vs : Value} {st1 : AS} (h : RelS w Z inj st a Ds) (ht : tiOf P t = some i) (hik : i.kind = .slice) (hfs : esFit i.esize sv = true) (hsr : RelV w Z inj st.nx sv vs) (ha : clearV st i sv = some (v,st1)) :
    ∃ x w' inj',(Builtin.clear_ #[t] ty #[vs]).run P w = .ok x w'∧RelV w' Z inj' st1.nx v x∧RelH w' Z inj' st1.hp st1.nx∧Ext w Z inj st.hp w' Z inj' st1.hp st.nx∧st1.sl = st.sl∧st.nx≤st1.nx:=by
  obtain ⟨info,d,z,k⟩:=q5l ht
  have hk:=k.kind
  unfold KindOk at hk
  simp only [hik] at hk
  obtain ⟨e,ie,de,ze,rfl,g1,g2,g3,g4,g5,g6,g7,g8,g9,_⟩:=hk
  have hz0 : ∀ w' inj' nx',RelV w' Z inj' nx' (.d (.tup [])) (.tuple #[]):=fun _ _ _=>.d (.tup (by simp) (by simp))
  cases sv <;> simp only [clearV,reduceCtorEq] at ha
  case d x=>
    cases x <;> simp only [reduceCtorEq,Option.some.injEq,Prod.mk.injEq] at ha
    obtain ⟨rfl,rfl⟩:=ha
    cases hsr with | d hsr=>
    cases hsr
    exact ⟨_,w,inj,by simp [Builtin.clear_,run_underlying k.und],hz0 _ _ _,h.heap,.refl,rfl,Nat.le_refl _⟩
  case hs n es off len=>
  have hes:=Nat.eq_of_beq_eq_true hfs
  subst hes
  split at ha <;> try simp at ha
  rename_i k0 xs hb
  obtain ⟨⟨hle,rfl⟩,rfl,rfl⟩:=ha
  obtain ⟨q1,q2,q3⟩:=q95 (h.heap.blk n _ hb).2 rfl
  have hlive : live (.dat i.esize xs) = true:=rfl
  by_cases h0 : len = 0
  · subst h0
    have hsp : splice xs off (List.replicate 0 i.ezero) = xs:=by simp [splice]
    have hfind : ∀ q,find (repl st.hp n (.dat i.esize (splice xs off (List.replicate 0 i.ezero)))) q = find st.hp q:=by
      intro q
      rw [hsp,q46]
      by_cases hq : n = q
      · subst hq;have : find st.hp n = some (.dat i.esize xs):=hb;simp [this]
      · simp [hq]
    have s1 : RelH w Z inj (repl st.hp n (.dat i.esize (splice xs off (List.replicate 0 i.ezero)))) st.nx:=
      ⟨fun q b hq=>h.heap.blk q b (by rw [hfind] at hq;exact hq),fun q r b c p' q' h1 h2=>h.heap.sep q r b c p' q' (by rw [hfind] at h1;exact h1) (by rw [hfind] at h2;exact h2),fun q b p' h1=>h.heap.out q b p' (by rw [hfind] at h1;exact h1),h.heap.zs,h.heap.zc⟩
    have s2 : Ext w Z inj st.hp w Z inj (repl st.hp n (.dat i.esize (splice xs off (List.replicate 0 i.ezero)))) st.nx:=
      {Ext.refl (w:=w) (Z:=Z) (inj:=inj) (hp:=st.hp) (pin:=st.nx) with imm:=fun b hb=>by obtain ⟨q,blk,o,h1,h2,h3⟩:=hb;rw [hfind] at h1;exact .inl ⟨q,blk,o,h1,h2,h3⟩}
    cases hsr with
    | hsnil=>exact ⟨_,w,inj,by simp [Builtin.clear_,run_underlying k.und],hz0 _ _ _,s1,s2,rfl,Nat.le_refl _⟩
    | @hs _ _ _ _ cap adr hn' hlc _ hcap=>exact ⟨_,w,inj,by simp [Builtin.clear_,run_underlying k.und],hz0 _ _ _,s1,s2,rfl,Nat.le_refl _⟩
  · cases hsr with
    | hsnil=>omega
    | @hs _ _ _ _ cap adr hn' hlc _ hcap=>
      obtain ⟨b,o,hi,rfl,hbig⟩:=hcap (by omega)
      rcases q3 with ⟨_,q4⟩ | ⟨b',o',arr,ty',q3,q4,q5⟩
      · rw [hi] at q4;cases q4
      rw [hi] at q3;cases q3
      obtain ⟨L1,hL1⟩ : ∃ L1,L1 = (Builtin.zeroCells ze.cells len).toList:=⟨_,rfl⟩
      have hzs : ze.cells.size = i.esize:=by
        have:=(q9g (w:=w) (Z:=Z) g4).1
        omega
      have hL : L1.length = len * i.esize:=by rw [hL1];simp [Builtin.zeroCells,hzs]
      have hERm : ERel w Z inj st.nx i.esize ((List.replicate len i.ezero).map (·.map V.d)) L1.toArray:=by
        refine ⟨by simp [hL],fun q x hx=>?_,fun q x j d hx hd=>?_⟩
        · rw [List.getElem?_map,List.getElem?_replicate] at hx
          split at hx <;> simp at hx
          rw [← hx];simpa using g5
        · rw [List.getElem?_map,List.getElem?_replicate] at hx
          split at hx <;> simp at hx
          rename_i hq
          subst hx
          rw [List.getElem?_map] at hd
          cases hd' : i.ezero[j]? with
          | none=>rw [hd'] at hd;cases hd
          | some d'=>
            rw [hd'] at hd;cases hd
            obtain ⟨c,hc,hr,hcell⟩:=qe3 (w:=w) (Z:=Z) g4 g5 hq hd'
            refine ⟨hcell,c,?_,.d hr⟩
            rw [hL1,Array.toArray_toList]
            unfold Builtin.zeroCells
            rw [hzs] at hc ⊢
            exact hc
      have hsz : o + (off + cap) * i.esize≤arr.size:=by
        obtain ⟨c,e2,f,k1,k2⟩:=hbig
        rw [q4] at k1;cases k1;exact k2
      have hmc : len * i.esize≤cap * i.esize:=Nat.mul_le_mul_right _ (by omega)
      rw [Nat.add_mul] at hsz
      have hst:=run_storeCells_at P b (o + off * i.esize) ty' L1 0 arr w q4 (by rw [hL];omega) (hERm.one g7)
      simp only [Nat.add_zero] at hst
      have hsp : (arr.toList.take (o + off * i.esize) ++ L1 ++ arr.toList.drop (o + off * i.esize + L1.length)).toArray = (splice arr.toList (o + off * i.esize) L1).toArray:=rfl
      rw [hsp] at hst
      have hfitL : o + off * i.esize + L1.length≤arr.toList.length:=by rw [hL];simp;omega
      have hasz : (splice arr.toList (o + off * i.esize) L1).toArray.size = arr.size:=by simp only [List.size_toArray];rw [q68 _ _ _ hfitL];simp
      have hz : ∀ b1,Z b1→(w.setRow b (splice arr.toList (o + off * i.esize) L1).toArray).heap[b1]? = w.heap[b1]?:=fun b1 hz1=>
        setRow_other w b b1 _ (fun e=>h.heap.out n _ _ hb hlive hi (by rw [← e];exact hz1))
      have hkb:=q54 w b arr _ ty' (0,0) q4 hasz
      have hrun : (Builtin.clear_ #[t] ty #[.slice (some ⟨b,o + off * i.esize,none⟩) len cap]).run P w = .ok (.tuple #[]) (w.setRow b (splice arr.toList (o + off * i.esize) L1).toArray):=by
        obtain ⟨l,rfl⟩ : ∃ l,len = l + 1:=⟨len - 1,by omega⟩
        have hzv : (zeroValue e).run P w = .ok ze w:=by simp [zeroValue,typeInfo,g1,g3]
        rw [hL1] at hst ⊢
        simp [Builtin.clear_,run_underlying k.und,hzv,hst]
      refine ⟨_,_,inj,hrun,hz0 _ _ _,?_,Ext.set h.heap hb hlive hi q4 hasz,rfl,Nat.le_refl _⟩
      refine h.heap.set hb hlive hi q4 hasz (q6x (es:=i.esize) (xs:=splice (xs.map (·.map V.d)) off ((List.replicate len i.ezero).map (·.map V.d))) ?_ g7 ?_ (.inr ⟨b,o,_,ty',hi,setRow_heap w b _ _ _ _ q4,?_⟩))
      · simp only [rowsOf,splice,List.map_append,List.map_take,List.map_drop,Option.some.injEq,Prod.mk.injEq,true_and]
        rw [List.length_map]
      · intro i' x' hx'
        rw [q50 _ _ _ _ (by simp;omega)] at hx'
        split at hx'
        · exact hERm.2.1 _ _ hx'
        · exact q2 _ _ hx'
      · refine (q5.spliceRows q2 hERm (by simp;omega) (by rw [hL];omega)).mono fun v x hr=>hr.mono hz (fun _ h=>h) hkb (fun _ _=>rfl) (Nat.le_refl _)
end
end Go.Am
namespace Go.Am
open Go
variable {P : Program} {T : Tab}
section
variable {w : World} {Z : Nat→Prop} {inj : Inj} {st : AS} {a : Act} {Ds : List Nat}
theorem qo9 {mx : Bool} {v b : V} {r : List V} {u : V} (h : minI mx v (b::r) = some u) : ∃ k n k' m,v = .d (.int k n)∧b = .d (.int k' m)∧minI mx (.d (.int k (bif mx then (if m > n then m else n) else (if m < n then m else n)))) r = some u:=by
  unfold minI at h
  split at h
  · rename_i heq;cases heq
  · rename_i heq;cases heq;exact ⟨_,_,_,_,rfl,rfl,h⟩
  · simp at h
theorem qgf {mx : Bool} {nx : Nat} : ∀ (r : List V) (v u : V) (x : Value) (xs : List Value),minI mx v r = some u→RelV w Z inj nx v x→r.length = xs.length→(∀ (i : Nat) (d : V) (c : Value),r[i]? = some d→xs[i]? = some c→RelV w Z inj nx d c)→
    ∃ y,(xs.foldlM (if mx then Builtin.max2 else Builtin.min2) x).run P w = .ok y w∧RelV w Z inj nx u y
  | [],v,u,x,xs,h,hv,hl,_=>by
    simp [minI] at h;subst h
    have : xs = []:=by cases xs <;> simp_all
    subst this
    exact ⟨x,by simp,hv⟩
  | b::r,v,u,x,xs,h,hv,hl,hr=>by
    match xs,hl,hr with
    | c::xs,hl,hr=>
      have hb:=hr 0 b c rfl rfl
      obtain ⟨k,n,k',m,rfl,rfl,h⟩:=qo9 h
      cases hv with | d hv=>
      cases hv
      cases hb with | d hb=>
      cases hb
      obtain ⟨y,h1,h2⟩:=qgf r _ u (.int k (bif mx then (if m > n then m else n) else (if m < n then m else n))) xs h (.d (.int _ _)) (by simpa using hl) (fun i d c hd hc=>hr (i + 1) d c (by simpa using hd) (by simpa using hc))
      refine ⟨y,?_,h2⟩
      cases mx
      · simp only [Bool.false_eq_true,if_false,List.foldlM_cons,Builtin.min2,Sem.run_bind,Sem.run_pure,Result.andThen_ok,cond_false] at h1 ⊢;exact h1
      · simp only [if_true,List.foldlM_cons,Builtin.max2,Sem.run_bind,Sem.run_pure,Result.andThen_ok,cond_true] at h1 ⊢;exact h1
theorem qkd {nx : Nat} {x y : V} {xs : Array Value} (h : LRel w Z inj nx [x,y] xs) : ∃ a b,xs = #[a,b]∧RelV w Z inj nx x a∧RelV w Z inj nx y b:=by
  obtain ⟨h1,h2⟩:=h
  obtain ⟨l⟩:=xs
  match l,h1 with
  | [a,b],_=>exact ⟨a,b,rfl,h2 0 _ _ rfl rfl,h2 1 _ _ rfl rfl⟩
theorem qgg {nx : Nat} {x : V} {xs : Array Value} (h : LRel w Z inj nx [x] xs) : ∃ a,xs = #[a]∧RelV w Z inj nx x a:=by
  obtain ⟨h1,h2⟩:=h
  obtain ⟨l⟩:=xs
  match l,h1 with
  | [a],_=>exact ⟨a,rfl,h2 0 _ _ rfl rfl⟩
theorem qjj {b : Builtin} {ts : Array TypeId} {ty : TypeId} {cs : Array Bool} {vs : List V} {xs : Array Value} {v : V} {st1 : AS} (hT : TabOk P T) (h : RelS w Z inj st a Ds) (hv : LRel w Z inj st.nx vs xs) (hb : builtinV T st b ts vs = some (v,st1)) :
    OpRes st st1 v w Z inj ((builtin b ts ty cs xs).run P w):=by
  unfold builtinV at hb
  split at hb
  ·
    rename_i x
    obtain ⟨xv,rfl,hx⟩:=qgg hv
    split at hb <;> try simp at hb
    rename_i t ht0
    split at hb <;> try simp at hb
    rename_i i hti
    obtain ⟨info,d,z,k⟩:=q5l (hT _ _ hti)
    have hkk:=k.kind
    unfold KindOk at hkk
    have fin : ∀ n : Int,(Builtin.len_ ts ty #[xv]).run P w = .ok (.int .i64 n) w→OpRes st st (.d (.int .i64 n)) w Z inj ((builtin .len ts ty cs #[xv]).run P w):=fun n hr=>
      .quiet h (by simp [builtin,hr]) (.d (.int _ _))
    split at hb <;> try simp at hb
    · rename_i hk
      simp only [hk] at hkk
      obtain ⟨e,ie,de,rfl,_⟩:=hkk
      obtain ⟨rfl,rfl⟩:=hb
      refine fin _ ?_
      simp only [Builtin.len_,ht0]
      simp [run_underlying k.und,goInt]
    · rename_i hk
      simp only [hk] at hkk
      obtain ⟨e,ie,de,ze,rfl,_⟩:=hkk
      have hlen : ∀ ad n cap,xv = .slice ad n cap→(Builtin.len_ ts ty #[xv]).run P w = .ok (.int .i64 n) w:=by
        rintro ad n cap rfl
        simp only [Builtin.len_,ht0]
        simp [run_underlying k.und,goInt]
      split at hb <;> try simp at hb
      · obtain ⟨rfl,rfl⟩:=hb
        cases hx with | d hx=>
        cases hx
        exact fin 0 (hlen _ _ _ rfl)
      · obtain ⟨rfl,rfl⟩:=hb
        cases hx with | d hx=>
        cases hx with
        | slnil=>exact fin _ (hlen _ _ _ rfl)
        | slemp=>exact fin _ (hlen _ _ _ rfl)
        | sl=>exact fin _ (hlen _ _ _ rfl)
      · obtain ⟨rfl,rfl⟩:=hb
        cases hx with
        | hsnil=>exact fin _ (hlen _ _ _ rfl)
        | hs=>exact fin _ (hlen _ _ _ rfl)
    · rename_i hk
      simp only [hk] at hkk
      obtain ⟨rfl,_⟩:=hkk
      split at hb <;> try simp at hb
      obtain ⟨rfl,rfl⟩:=hb
      cases hx with | d hx=>
      cases hx
      refine fin _ ?_
      simp only [Builtin.len_,ht0]
      simp [run_underlying k.und,goInt]
  ·
    obtain ⟨sv,xv,rfl,hs,hx⟩:=qkd hv
    split at hb <;> try simp at hb
    rename_i t u ht0 hu0
    split at hb <;> try simp at hb
    rename_i i j hti htj
    obtain ⟨⟨h1,h2,h3⟩,hb⟩:=hb
    have key : (Builtin.append_ ts ty #[sv,xv]).run P w = (Builtin.append_ #[t,u] ty #[sv,xv]).run P w:=by
      unfold Builtin.append_;simp only [ht0,hu0];rfl
    obtain ⟨x,w',inj',hr,r1,r2,r3,r4,r5⟩:=qo8 (ty:=ty) h (hT _ _ hti) (hT _ _ htj) h1 h2 h3 hs hx hb
    exact ⟨x,w',inj',.inl (by simp [builtin,key,hr]),r1,r2,r3,r4,r5⟩
  ·
    obtain ⟨sv,xv,rfl,hs,hx⟩:=qkd hv
    split at hb <;> try simp at hb
    rename_i t u ht0 hu0
    split at hb <;> try simp at hb
    rename_i i j hti htj
    obtain ⟨⟨h1,h2,h3,h4⟩,hb⟩:=hb
    have key : (Builtin.copy_ ts ty #[sv,xv]).run P w = (Builtin.copy_ #[t,u] ty #[sv,xv]).run P w:=by
      unfold Builtin.copy_;simp only [ht0];rfl
    obtain ⟨x,w',inj',hr,r1,r2,r3,r4,r5⟩:=qr0 (ty:=ty) h (hT _ _ hti) (hT _ _ htj) h1 h2 h3 h4 hs hx hb
    exact ⟨x,w',inj',.inl (by simp [builtin,key,hr]),r1,r2,r3,r4,r5⟩
  ·
    rename_i x
    obtain ⟨xv,rfl,hx⟩:=qgg hv
    split at hb <;> try simp at hb
    rename_i t ht0
    split at hb <;> try simp at hb
    rename_i i hti
    obtain ⟨⟨h1,h2⟩,hb⟩:=hb
    have key : (Builtin.clear_ ts ty #[xv]).run P w = (Builtin.clear_ #[t] ty #[xv]).run P w:=by
      unfold Builtin.clear_;simp only [ht0];rfl
    obtain ⟨x,w',inj',hr,r1,r2,r3,r4,r5⟩:=qpu (ty:=ty) h (hT _ _ hti) h1 h2 hx hb
    exact ⟨x,w',inj',.inl (by simp [builtin,key,hr]),r1,r2,r3,r4,r5⟩
  ·
    rename_i v0 r
    cases hm : minI false v0 r with
    | none=>simp [hm] at hb
    | some u=>
      simp [hm] at hb;obtain ⟨rfl,rfl⟩:=hb
      obtain ⟨l⟩:=xs
      match l,hv with
      | [],hv=>simp [LRel] at hv
      | x::xs,hv=>
        obtain ⟨y,h1,h2⟩:=qgf (P:=P) r v0 u x xs hm (hv.2 0 _ _ rfl rfl) (by simpa using hv.1) (fun i d c hd hc=>hv.2 (i + 1) d c (by simpa using hd) (by simpa using hc))
        refine .quiet h ?_ h2
        simp only [Bool.false_eq_true,if_false] at h1
        simp [builtin,Builtin.min_,h1]
  · rename_i v0 r
    cases hm : minI true v0 r with
    | none=>simp [hm] at hb
    | some u=>
      simp [hm] at hb;obtain ⟨rfl,rfl⟩:=hb
      obtain ⟨l⟩:=xs
      match l,hv with
      | [],hv=>simp [LRel] at hv
      | x::xs,hv=>
        obtain ⟨y,h1,h2⟩:=qgf (P:=P) r v0 u x xs hm (hv.2 0 _ _ rfl rfl) (by simpa using hv.1) (fun i d c hd hc=>hv.2 (i + 1) d c (by simpa using hd) (by simpa using hc))
        refine .quiet h ?_ h2
        simp only [if_true] at h1
        simp [builtin,Builtin.max_,h1]
  · simp at hb
theorem qke {o : Oper} {v : V} {st1 : AS} (hT : TabOk P T) (h : RelS w Z inj st a Ds) (ho : opFn T st o.op = some (v,st1)) : OpRes st st1 v w Z inj ((execOp a.eval o).run P w):=by
  obtain ⟨dst,op,type,pos,after,guard⟩:=o
  simp only at ho
  cases op <;> simp only [opFn,reduceCtorEq] at ho
  case move x=>
    cases hx : st.ev x with
    | none=>simp [hx] at ho
    | some u=>simp [hx] at ho;obtain ⟨rfl,rfl⟩:=ho;exact qmp h hx rfl
  case assign x=>
    cases hx : st.ev x with
    | none=>simp [hx] at ho
    | some u=>simp [hx] at ho;obtain ⟨rfl,rfl⟩:=ho;exact qmp h hx rfl
  case pick c x y=>
    split at ho <;> try simp at ho
    · rename_i hc
      obtain ⟨u,hx,rfl,rfl⟩:=ho
      have hcr:=q24 h hc
      generalize hce : a.eval c = cv at hcr
      cases hcr with | d hcr=>
      cases hcr
      exact .quiet h (by simp [execOp,hce,asBool]) (q24 h hx)
    · rename_i hc
      obtain ⟨u,hx,rfl,rfl⟩:=ho
      have hcr:=q24 h hc
      generalize hce : a.eval c = cv at hcr
      cases hcr with | d hcr=>
      cases hcr
      exact .quiet h (by simp [execOp,hce,asBool]) (q24 h hx)
  case alloc t=>
    cases ht : T t with
    | none=>simp [ht] at ho
    | some i=>simp [ht] at ho;obtain ⟨rfl,rfl⟩:=ho;exact qpj h (hT _ _ ht)
  case box t x=>
    split at ho <;> try simp at ho
    rename_i i u ht hx
    obtain ⟨⟨h1,h2⟩,rfl,rfl⟩:=ho
    exact qro h (hT _ _ ht) hx h1 (by simpa using h2)
  case build t ps=>
    split at ho <;> try simp at ho
    rename_i i vs ht hv
    obtain ⟨h1,ho⟩:=ho
    split at ho <;> try simp at ho
    rename_i l hl
    obtain ⟨cs,hc,rfl,rfl⟩:=ho
    exact qpl h (hT _ _ ht) hv h1 hl hc
  case buildSlice t len ps=>
    split at ho <;> try simp at ho
    rename_i i vs ht hv
    split at ho <;> try simp at ho
    rename_i l hl
    obtain ⟨⟨h1,h2⟩,xs,hc,rfl,rfl⟩:=ho
    exact qji h (hT _ _ ht) hv hl h1 h2 hc
  case load t p=>
    split at ho <;> try simp at ho
    rename_i i u ht hp
    obtain ⟨x,hx,rfl,rfl⟩:=ho
    exact qqy h (hT _ _ ht) hp hx
  case store t p x=>
    split at ho <;> try simp at ho
    rename_i i u y ht hp hx
    obtain ⟨hs,rfl⟩:=ho
    exact qps h (hT _ _ ht) hp hx hs
  case binOp op t x y u=>
    split at ho
    · rename_i p q hx hy
      split at ho <;> try simp at ho
      rename_i i ht
      split at ho <;> try simp at ho
      rename_i ks hks
      split at ho <;> simp at ho
      · rename_i r hc;obtain ⟨rfl,rfl⟩:=ho;exact qio h (hT _ _ ht) hx hy hks hc (.inl ⟨rfl,rfl⟩)
      · rename_i r hc;obtain ⟨rfl,rfl⟩:=ho;exact qio h (hT _ _ ht) hx hy hks hc (.inr ⟨rfl,rfl⟩)
    · rename_i hx hy
      simp at ho
      obtain ⟨r,hr,rfl,rfl⟩:=ho
      exact qo5 h hx hy hr
    · rename_i hx hy
      split at ho <;> try simp at ho
      rename_i i ht
      obtain ⟨r,hr,rfl,rfl⟩:=ho
      exact qpo h (hT _ _ ht) hx hy hr
    · simp at ho
  case unOp op t x=>
    split at ho <;> try simp at ho
    rename_i p hx
    obtain ⟨r,hr,rfl,rfl⟩:=ho
    exact qs8 h hx hr
  case convert src dst x=>
    split at ho <;> try simp at ho
    rename_i i j k n hi hj hx
    split at ho <;> simp at ho
    rename_i k0 k1 hk0 hk1
    obtain ⟨rfl,rfl⟩:=ho
    exact qnd h (hT _ _ hi) (hT _ _ hj) hk0 hk1 hx
  case makeFunc fn first caps=>
    cases fn <;> simp only [reduceCtorEq] at ho
    rename_i f
    split at ho <;> simp at ho
    rename_i hf
    obtain ⟨vs,hv,rfl,rfl⟩:=ho
    exact qly h hf hv
  case makeSlice t l c=>
    split at ho <;> try simp at ho
    rename_i i k1 n k2 m ht hl hc
    obtain ⟨⟨h1,h2,h3,h4⟩,rfl,rfl⟩:=ho
    exact qkb h (hT _ _ ht) h1 hl hc h2 h3 h4
  case slice t x lo hi mx=>
    split at ho <;> try simp at ho
    rename_i i u ht hx
    obtain ⟨⟨h1,h2⟩,ho⟩:=ho
    split at ho <;> try simp at ho
    rename_i n hn
    split at ho <;> try simp at ho
    rename_i p q hp hq
    obtain ⟨r,hr,rfl,rfl⟩:=ho
    subst h2
    exact qpr h (hT _ _ ht) h1 hx hn hp hq hr
  case fieldAddr s p f=>
    split at ho <;> try simp at ho
    rename_i i u ht hp
    split at ho <;> try simp at ho
    rename_i off size ag hk hf
    obtain ⟨r,hr,rfl,rfl⟩:=ho
    exact qk9 h (hT _ _ ht) hp hk hf hr
  case field s x f=>
    split at ho <;> try simp at ho
    rename_i i u ht hx
    split at ho <;> try simp at ho
    rename_i off size ag cs hk hf ha
    split at ho <;> try simp at ho
    rename_i r hr
    obtain ⟨y,hy,rfl,rfl⟩:=ho
    exact qpp h (hT _ _ ht) hx hk hf ha hr hy
  case indexAddr t x ix=>
    split at ho <;> try simp at ho
    rename_i i u k n ht hx hn
    obtain ⟨y,hy,rfl,rfl⟩:=ho
    exact qka h (hT _ _ ht) hx hn hy
  case index t x ix=>
    split at ho <;> try simp at ho
    rename_i i u k n ht hx hn
    split at ho <;> try simp only [reduceCtorEq] at ho
    · rename_i cs hk ha
      split at ho <;> try simp at ho
      rename_i h0
      split at ho <;> try simp at ho
      rename_i r hr
      obtain ⟨y,hy,rfl,rfl⟩:=ho
      exact qpq h (hT _ _ ht) hx hn hk ha h0 hr hy
    · rename_i hk
      split at ho <;> try simp only [reduceCtorEq] at ho
      rename_i s
      rw [Option.map_eq_some_iff] at ho
      obtain ⟨b,hb,e⟩:=ho
      cases e
      exact qo6 h (hT _ _ ht) hx hn hk hb
  case extract x k=>
    split at ho <;> try simp at ho
    · rename_i vs hx
      obtain ⟨y,hy,rfl,rfl⟩:=ho
      exact qh8 h (.inl ⟨vs,y,hx,hy,rfl⟩)
    · rename_i vs hx
      obtain ⟨y,hy,rfl,rfl⟩:=ho
      exact qh8 h (.inr ⟨vs,hx,hy⟩)
  case nilCheck x=>
    have key : ∀ u,st.ev x = some u→(match a.eval x with | .pointer none | .nilIface | .nilFunc | .func (.method _) _ _=>False | _=>True)→OpRes st st u w Z inj ((execOp a.eval {dst:=dst,op:=.nilCheck x,type:=type,pos:=pos,after:=after,guard:=guard}).run P w):=by
      intro u hx hne
      have hr:=q24 h hx
      refine .quiet (x:=a.eval x) h ?_ hr
      simp only [execOp]
      split <;> simp_all
    split at ho <;> simp at ho
    all_goals
      rename_i hx
      obtain ⟨rfl,rfl⟩:=ho
      refine key _ hx ?_
      have hr:=q24 h hx
      generalize a.eval x = xv at hr ⊢
      first
        | (cases hr with | d hr=>cases hr <;> trivial)
        | (cases hr <;> trivial)
  case call c=>
    obtain ⟨cal,args,argTypes⟩:=c
    cases cal <;> simp only [reduceCtorEq] at ho
    rename_i b
    split at ho <;> try simp at ho
    rename_i vs hv
    have hl:=qcf h hv
    have e2 : (args.toList.map a.eval).toArray = args.map a.eval:=by apply Array.ext';simp
    rw [e2] at hl
    have:=qjj (ty:=type) (cs:=args.map fun | .const _=>true | _=>false) hT h hl ho
    simp only [execOp,resolve,Sem.run_bind,Sem.run_pure,Result.andThen_ok,invoke]
    exact this
end
end Go.Am
namespace Go.Am
open Go
variable {P : Program} {T : Tab}
theorem RelD.le {w : World} {Z : Nat→Prop} {x y : DV} {v : Value} (h : RelD w Z x v) (hl : DLe x y) : RelD w Z y v:=by
  induction hl generalizing v with
  | refl=>exact h
  | nil es=>cases h;exact .slnil es
  | tup hlen _ ih=>
    cases h with | @tup _ cs h1 h2=>
    refine .tup (by omega) fun i d c hd hc=>?_
    obtain ⟨x,hx⟩:=q3y hlen.symm hd
    exact ih i x d hx hd (h2 i x c hx hc)
  | agg hlen _ ih=>
    cases h with | @agg _ cs h1 h2=>
    refine .agg (by omega) fun i d c hd hc=>?_
    obtain ⟨x,hx⟩:=q3y hlen.symm hd
    exact ih i x d hx hd (h2 i x c hx hc)
  | @sl es xs ys hlen hrow hcell ih=>
    have nils : xs = []→ys = []:=fun e=>List.length_eq_zero_iff.1 (by rw [← hlen,e];rfl)
    have row : ∀ (i : Nat) (y : List DV),ys[i]? = some y→∃ x,xs[i]? = some x∧x.length = y.length:=fun i y hy=>by
      obtain ⟨x,hx⟩:=q3y hlen.symm hy
      exact ⟨x,hx,hrow i x y hx hy⟩
    have cell : ∀ (i : Nat) (y : List DV) (j : Nat) (d : DV),ys[i]? = some y→y[j]? = some d→∃ x c,xs[i]? = some x∧x[j]? = some c∧DLe c d:=fun i y j d hy hd=>by
      obtain ⟨x,hx,hl⟩:=row i y hy
      obtain ⟨c,hc⟩:=q3y hl.symm hd
      exact ⟨x,c,hx,hc,hcell i x y j c d hx hy hc hd⟩
    cases h with
    | slnil=>rw [nils rfl];exact .slnil es
    | slemp _ a=>rw [nils rfl];exact .slemp es a
    | @sl _ _ b o cap h1 h2 h3 h4 h5=>
      rw [hlen]
      refine .sl (by omega) (fun hn=>h2 fun e=>hn (nils e)) (fun i y hy=>?_) (fun i y j d hy hd=>?_) fun i y j d c hy hd hc=>?_
      · obtain ⟨x,hx,hl⟩:=row i y hy
        rw [← hl];exact h3 i x hx
      · obtain ⟨x,c,hx,hc,hle⟩:=cell i y j d hy hd
        obtain ⟨g1,g2⟩:=h4 i x j c hx hc
        refine ⟨?_,g2⟩
        cases hle with
        | refl=>exact g1
        | nil=>rfl
        | tup=>exact absurd g1 (by simp [isCell])
        | agg=>exact absurd g1 (by simp [isCell])
        | sl=>rfl
      · obtain ⟨x,c',hx,hc',hle⟩:=cell i y j d hy hd
        exact ih i x y j c' d hx hy hc' hd (h5 i x j c' c hx hc' hc)
section
variable {w : World} {Z : Nat→Prop} {inj : Inj} {st st' : AS} {a : Act} {Ds : List Nat} {base : Nat} {ρ : Nat→Nat} {fz ph : List Nat}
def wkZ (Z : Nat→Prop) (inj : Inj) (st : AS) (fz : List Nat) (b : Nat) : Prop:=Z b∨∃ n∈fz,∃ es xs o,find st.hp n = some (.dat es xs)∧inj n = some (b,o)
def wkI (inj : Inj) (ρ : Nat→Nat) (ph : List Nat) : Inj:=fun n=>if n∈ph then none else inj (ρ n)
theorem qh9 (h : RelH w Z inj st.hp st.nx) {nx' : Nat} {v v' : V} (hv : Wv st ρ fz ph nx' v v') : ∀ {x : Value},RelV w Z inj st.nx v x→RelV w (wkZ Z inj st fz) (wkI inj ρ ph) nx' v' x:=by
  have hz : ∀ b,Z b→wkZ Z inj st fz b:=fun b hb=>.inl hb
  induction hv with
  | dead=>exact fun _=>.dead _
  | d hle=>intro x hx;cases hx with | d hx=>exact .d ((hx.le hle).mono (fun _ _=>rfl) hz)
  | nil hm hlt=>intro x hx;cases hx with | d hx=>cases hx;exact .hsnil hlt
  | dref cs j=>intro x hx;cases hx with | dref h1 h2 h3=>exact .dref (hz _ h1) h2 fun k d c hd hc=>(h3 k d c hd hc).mono (fun _ _=>rfl) hz
  | ref hr hp hlt=>intro x hx;cases hx with | ref h1 h2=>exact .ref hlt (by simp only [wkI,hp,hr,if_false];exact h2)
  | hs hr hp hlt=>
    intro x hx
    cases hx with
    | hsnil h1=>exact .hsnil hlt
    | hs h1 h2 h3 h4=>exact .hs hlt h2 h3 fun hc=>by obtain ⟨b,o,e1,e2,e3⟩:=h4 hc;exact ⟨b,o,by simp only [wkI,hp,hr,if_false];exact e1,e2,e3⟩
  | yld hr hp hlt=>intro x hx;cases hx with | yld h1 h2=>exact .yld hlt (by simp only [wkI,hp,hr,if_false];exact h2)
  | fn hl _ ih=>
    intro x hx
    cases hx with | @fn _ _ cs h1 h2=>
    refine .fn (by omega) fun i d c hd hc=>?_
    obtain ⟨y,hy⟩:=q3y hl.symm hd
    exact ih i y d hy hd (h2 i y c hy hc)
  | agg hl _ ih=>
    intro x hx
    cases hx with | @agg _ cs h1 h2=>
    refine .agg (by omega) fun i d c hd hc=>?_
    obtain ⟨y,hy⟩:=q3y hl.symm hd
    exact ih i y d hy hd (h2 i y c hy hc)
  | tup hl _ ih=>
    intro x hx
    cases hx with | @tup _ cs h1 h2=>
    refine .tup (by omega) fun i d c hd hc=>?_
    obtain ⟨y,hy⟩:=q3y hl.symm hd
    exact ih i y d hy hd (h2 i y c hy hc)
  | dtup hl _ ih=>
    intro x hx
    cases hx with | d hx=>cases hx with | @tup _ cs h1 h2=>
    refine .tup (by omega) fun i d c hd hc=>?_
    obtain ⟨y,hy⟩:=q3y hl.symm hd
    exact ih i y d hy hd (.d (h2 i y c hy hc))
  | dagg hl _ ih=>
    intro x hx
    cases hx with | d hx=>cases hx with | @agg _ cs h1 h2=>
    refine .agg (by omega) fun i d c hd hc=>?_
    obtain ⟨y,hy⟩:=q3y hl.symm hd
    exact ih i y d hy hd (.d (h2 i y c hy hc))
  | @frz n es o l xs ys k hb hf hle hys hk=>
    intro x hx
    subst hk hys
    have hlen : ((xs.drop o).take l).length = l:=by simp;omega
    have hB:=(h.blk n _ hb).2
    obtain ⟨b1,b2,b3⟩:=hB
    cases hx with
    | hsnil h1=>
      have : (xs.drop o).take 0 = []:=by simp
      rw [this];exact .d (.slnil _)
    | @hs _ _ _ _ cap ad h1 h2 h3 h4=>
      obtain ⟨bb,oo,sp⟩:=ad
      simp only at h3;subst h3
      by_cases h0 : l = 0
      · subst h0
        have : (xs.drop o).take 0 = []:=by simp
        rw [this]
        exact .d (RelD.sl (es:=k) (xs:=[]) (by simp) (by simp) (by simp) (by simp) (by simp))
      · obtain ⟨b,o',e1,e2,e3⟩:=h4 (by omega)
        rw [e2]
        rcases b3 with ⟨_,b4⟩ | ⟨b',o'',arr,ty,b4,b5,b6⟩
        · rw [e1] at b4;cases b4
        · rw [e1] at b4;cases b4
          have hget : ∀ (i : Nat) (x : List DV),((xs.drop o).take l)[i]? = some x→xs[o + i]? = some x:=by
            intro i x hx
            rw [List.getElem?_take] at hx
            split at hx
            · rwa [List.getElem?_drop] at hx
            · simp at hx
          have e9 : ∀ i j,o' + o * k + (i * k + j) = o' + ((o + i) * k + j):=by intro i j;rw [Nat.add_mul];omega
          have hcell : ∀ (i : Nat) (x : List DV) (j : Nat) (d : DV),((xs.drop o).take l)[i]? = some x→x[j]? = some d→isCell d = true∧∃ c,w.cell? ⟨b,o' + o * k + (i * k + j),none⟩ = some c∧RelD w Z d c:=by
            intro i x j d hx hd
            obtain ⟨c1,c,c2,c3⟩:=b6 _ x j d (hget i x hx) hd
            exact ⟨c1,c,by rw [e9];simp only [World.cell?,b5];exact c2,c3⟩
          have:=RelD.sl (w:=w) (Z:=wkZ Z inj st fz) (es:=k) (xs:=(xs.drop o).take l) (b:=b) (o:=o' + o * k) (cap:=cap) (by rw [hlen];exact h2) (fun _=>.inr ⟨n,hf,_,_,o',hb,e1⟩) (fun i x hx=>b2 _ _ (hget i x hx))
            (fun i x j d hx hd=>by obtain ⟨c1,c,c2,_⟩:=hcell i x j d hx hd;exact ⟨c1,c,c2⟩)
            (fun i x j d c hx hd hc=>by obtain ⟨_,c',c2,c3⟩:=hcell i x j d hx hd;rw [c2] at hc;cases hc;exact c3.mono (fun _ _=>rfl) hz)
          rw [hlen] at this
          exact .d this
  | @frzB n es cs k hb hf hk=>
    intro x hx
    subst hk
    obtain ⟨b1,b2,b3⟩:=(h.blk n _ hb).2
    cases hx with | @ref _ _ _ _ b o h1 h2=>
    rcases b3 with ⟨b4,_⟩ | ⟨b',o'',arr,ty,b4,b5,b6⟩
    · simp at b4
    · rw [h2] at b4;cases b4
      have hcell : ∀ (j : Nat) (d : DV),cs[j]? = some d→∃ c,w.cell? ⟨b,o + (0 * k + 0) + j,none⟩ = some c∧RelD w Z d c:=by
        intro j d hd
        obtain ⟨c1,c,c2,c3⟩:=b6 0 cs j d rfl hd
        exact ⟨c,by simp only [World.cell?,b5];rw [← c2];simp,c3⟩
      exact .d (.box (.inr ⟨n,hf,_,_,o,hb,h2⟩) (fun j d hd=>by obtain ⟨c,c2,_⟩:=hcell j d hd;exact ⟨c,c2⟩)
        (fun j d c hd hc=>by obtain ⟨c',c2,c3⟩:=hcell j d hd;rw [c2] at hc;cases hc;exact c3.mono (fun _ _=>rfl) hz))
theorem qrp (h : RelH w Z inj st.hp st.nx) {nx' n : Nat} {b b' : Blk} (hp : n ∉ ph) (hw : Wb st ρ fz ph nx' b b') (hb : RelB w Z inj st.nx (ρ n) b) : RelB w (wkZ Z inj st fz) (wkI inj ρ ph) nx' n b':=by
  have hz : ∀ b,Z b→wkZ Z inj st fz b:=fun b hb=>.inl hb
  have hi : wkI inj ρ ph n = inj (ρ n):=by simp [wkI,hp]
  cases hw with
  | dead=>trivial
  | dat es xs=>
    obtain ⟨h1,h2,h3⟩:=hb
    refine ⟨h1,h2,?_⟩
    rcases h3 with ⟨h3,h4⟩ | ⟨b,o,arr,ty,h3,h4,h5⟩
    · exact .inl ⟨h3,hi.trans h4⟩
    · exact .inr ⟨b,o,arr,ty,hi.trans h3,h4,fun i x j d hx hd=>by obtain ⟨c1,c,c2,c3⟩:=h5 i x j d hx hd;exact ⟨c1,c,c2,c3.mono (fun _ _=>rfl) hz⟩⟩
  | cel hl hc=>
    obtain ⟨h1,h2,h3⟩:=hb
    refine ⟨h1,?_,?_⟩
    · intro i y hy
      obtain ⟨x,hx⟩:=q3y hl.symm hy
      rw [← (hc i x y hx hy).1];exact h2 i x hx
    · rcases h3 with ⟨h3,h4⟩ | ⟨b,o,arr,ty,h3,h4,h5⟩
      · exact .inl ⟨List.eq_nil_of_length_eq_zero (by rw [← hl,h3];rfl),hi.trans h4⟩
      · refine .inr ⟨b,o,arr,ty,hi.trans h3,h4,fun i y j d hy hd=>?_⟩
        obtain ⟨x,hx⟩:=q3y hl.symm hy
        obtain ⟨l1,l2⟩:=hc i x y hx hy
        obtain ⟨c0,hc0⟩:=q3y l1.symm hd
        obtain ⟨m1,m2⟩:=l2 j c0 d hc0 hd
        obtain ⟨c1,c,c2,c3⟩:=h5 i x j c0 hx hc0
        exact ⟨m2,c,c2,qh9 h m1 c3⟩
  | datcel hl hc=>
    obtain ⟨h1,h2,h3⟩:=hb
    refine ⟨h1,?_,?_⟩
    · intro i y hy
      obtain ⟨x,hx⟩:=q3y hl.symm hy
      rw [← (hc i x y hx hy).1];exact h2 i x hx
    · rcases h3 with ⟨h3,h4⟩ | ⟨b,o,arr,ty,h3,h4,h5⟩
      · exact .inl ⟨List.eq_nil_of_length_eq_zero (by rw [← hl,h3];rfl),hi.trans h4⟩
      · refine .inr ⟨b,o,arr,ty,hi.trans h3,h4,fun i y j d hy hd=>?_⟩
        obtain ⟨x,hx⟩:=q3y hl.symm hy
        obtain ⟨l1,l2⟩:=hc i x y hx hy
        obtain ⟨c0,hc0⟩:=q3y l1.symm hd
        obtain ⟨m1,m2⟩:=l2 j c0 d hc0 hd
        obtain ⟨c1,c,c2,c3⟩:=h5 i x j c0 hx hc0
        exact ⟨m2,c,c2,qh9 h m1 (.d c3)⟩
  | loop hs=>
    obtain ⟨b,tmps,D,fn,h1,h2,h3,h4⟩:=hb
    refine ⟨b,tmps,D,fn,hi.trans h1,h2,h3,fun t v' ht=>?_⟩
    obtain ⟨v,hv,hw⟩:=hs t v' ht
    obtain ⟨x,hx,hr⟩:=h4 t v hv
    exact ⟨x,hx,qh9 h hw hr⟩
theorem qmu {nx' : Nat} {b b' : Blk} (hw : Wb st ρ fz ph nx' b b') (hl : live b' = true) : live b = true:=by
  cases hw <;> first | rfl | simp [live] at hl
theorem q8y (h : RelS w Z inj st a Ds) (hw : Wk base ρ fz ph st st') : RelS w (wkZ Z inj st fz) (wkI inj ρ ph) st' a Ds∧Ext w Z inj st.hp w (wkZ Z inj st fz) (wkI inj ρ ph) st'.hp base:=by
  have back : ∀ n b',st'.blk n = some b'→live b' = true→∀ p,wkI inj ρ ph n = some p→n ∉ ph∧∃ b,st.blk (ρ n) = some b∧live b = true∧inj (ρ n) = some p:=by
    intro n b' hb hl p hp
    have hnp : n ∉ ph:=by intro hc;simp [wkI,hc] at hp
    obtain ⟨_,h2⟩:=hw.blocks n b' hb
    rcases h2 with ⟨h2,_⟩ | ⟨_,b,h3,h4⟩
    · exact absurd h2 hnp
    · exact ⟨hnp,b,h3,qmu h4 hl,by simpa [wkI,hnp] using hp⟩
  refine ⟨⟨?_,⟨?_,?_,?_,?_,?_⟩,h.defs,h.nodup,h.marks⟩,?_⟩
  · intro t v' ht
    obtain ⟨v,hv,hwv⟩:=hw.slots t v' ht
    obtain ⟨x,hx,hr⟩:=h.slots t v hv
    exact ⟨x,hx,qh9 h.heap hwv hr⟩
  · intro n b' hb
    obtain ⟨h1,h2⟩:=hw.blocks n b' hb
    refine ⟨h1,?_⟩
    rcases h2 with ⟨h2,es,hes,rfl⟩ | ⟨h2,b,h3,h4⟩
    · exact ⟨hes,by simp,.inl ⟨rfl,by simp [wkI,h2]⟩⟩
    · exact qrp h.heap h2 h4 (h.heap.blk _ _ h3).2
  · intro n m b c p q hn hm hlb hlc hp hq hne
    obtain ⟨n1,b0,n2,n3,n4⟩:=back n b hn hlb p hp
    obtain ⟨m1,c0,m2,m3,m4⟩:=back m c hm hlc q hq
    exact h.heap.sep _ _ b0 c0 p q n2 m2 n3 m3 n4 m4 (fun e=>hne (hw.inj n m b c hn hm n1 m1 e))
  · intro n b p hn hl hp hz
    obtain ⟨n1,b0,n2,n3,n4⟩:=back n b hn hl p hp
    rcases hz with hz | ⟨m,hm,es,xs,o,k1,k3⟩
    · exact h.heap.out _ b0 p n2 n3 n4 hz
    · exact h.heap.sep _ _ b0 _ p (p.1,o) n2 k1 n3 rfl n4 k3 (fun e=>hw.free n b hn n1 (by rw [e];exact hm)) rfl
  · intro b hz
    rcases hz with hz | ⟨m,hm,es,xs,o,k1,k3⟩
    · exact h.heap.zs b hz
    · exact h.heap.im_lt ⟨m,_,o,k1,rfl,k3⟩
  · intro b hz
    rcases hz with hz | ⟨m,hm,es,xs,o,k1,k3⟩
    · exact h.heap.zc b hz
    · obtain ⟨_,_,b3⟩:=(h.heap.blk m _ k1).2
      rcases b3 with ⟨_,b4⟩ | ⟨b',o'',arr,ty,b4,b5,_⟩
      · rw [k3] at b4;cases b4
      · rw [k3] at b4;cases b4;exact ⟨_,_,_,b5⟩
  · refine ⟨Nat.le_refl _,fun _ _ _=>rfl,?_,fun _ c e f h=>⟨c,e,f,h,rfl⟩,fun _ r h=>⟨r,h,rfl⟩,fun _ h=>.inl h,?_,?_,rfl,rfl,rfl,fun _=>rfl⟩
    · rintro b ⟨n,blk,o,k1,k2,k3⟩
      obtain ⟨n1,b0,n2,n3,n4⟩:=back n blk k1 k2 _ k3
      exact .inl ⟨_,b0,o,n2,n3,n4⟩
    · intro b hz
      rcases hz with hz | ⟨m,hm,es,xs,o,k1,k3⟩
      · exact .inl hz
      · exact .inr (.inl ⟨m,_,o,k1,rfl,k3⟩)
    · intro n hn
      have hnp : n ∉ ph:=fun hc=>by have:=hw.phantom n hc;omega
      simp [wkI,hnp,hw.small n hn]
end
end Go.Am
namespace Go.Am
open Go
variable {P : Program} {T : Tab}
section
variable {w : World} {Z : Nat→Prop} {inj : Inj} {st : AS} {a : Act} {Ds : List Nat}
theorem qnf {r : ResultVar} {v : V} (hT : TabOk P T) (h : RelH w Z inj st.hp st.nx) (hs : RelSlots w Z inj st.nx st.sl a.tmps) (hr : resOne T st r = some v) :
    ∃ x,(match r with | .tmp t=>pure (a.tmps.getD t undef) | .cell p t=>(do loadVar t (← asAddr (a.tmps.getD p undef)) : Sem Value) : Sem Value).run P w = .ok x w∧RelV w Z inj st.nx v x:=by
  cases r with
  | tmp t=>
    obtain ⟨x,hx,hrel⟩:=hs t v hr
    exact ⟨x,by simp [Array.getD_eq_getD_getElem?,hx],hrel⟩
  | cell p t=>
    simp only [resOne] at hr
    split at hr <;> try simp at hr
    rename_i pv i hp ht
    obtain ⟨x,hx,hrel⟩:=hs p pv hp
    obtain ⟨b,o,y,e,hrun,hy⟩:=qin (P:=P) h (hT _ _ ht) hrel hr
    refine ⟨y,?_,hy⟩
    rw [e] at hx hrun
    simp [Instr.loadAt,Instr.sureAddr] at hrun
    simp [Array.getD_eq_getD_getElem?,hx,asAddr,hrun]
theorem qkf (hT : TabOk P T) (h : RelH w Z inj st.hp st.nx) (hs : RelSlots w Z inj st.nx st.sl a.tmps) (g : ResultVar→Sem Value) (hg1 : ∀ t,g (.tmp t) = pure (a.tmps.getD t undef))
    (hg2 : ∀ p t,g (.cell p t) = (do loadVar t (← asAddr (a.tmps.getD p undef)))) : ∀ {l : List ResultVar} {vs : List V},resL T st l = some vs→
    ∃ xs : List Value,(l.mapM g).run P w = .ok xs w∧LRel w Z inj st.nx vs xs.toArray
  | [],vs,hr=>by simp [resL] at hr;subst hr;exact ⟨[],by simp,by simp,by simp⟩
  | r::l,vs,hr=>by
    simp only [resL] at hr
    split at hr <;> try simp at hr
    rename_i v vs' h1 h2
    subst hr
    obtain ⟨x,hx,hrel⟩:=qnf hT h hs h1
    obtain ⟨xs,hxs,hl⟩:=qkf hT h hs g hg1 hg2 h2
    have hx : (g r).run P w = .ok x w:=by
      rw [← hx];cases r
      · rw [hg1]
      · rw [hg2]
    refine ⟨x::xs,?_,?_,?_⟩
    · rw [List.mapM_cons]
      simp only [Sem.run_bind,hx,Result.andThen_ok,hxs,Sem.run_pure]
    · have:=hl.1;simp at this ⊢;omega
    · intro i d c hd hc
      cases i with
      | zero=>simp at hd hc;subst hd hc;exact hrel
      | succ i=>simp at hd hc;exact hl.2 i d c hd (by simpa using hc)
theorem qoa {nx : Nat} {cs : List V} {xs : Array Value} (h : LRel w Z inj nx cs xs) : RelV w Z inj nx (mkTup cs) (.tuple xs):=by
  unfold mkTup
  split
  · rename_i ds hd
    have:=q9t hd;subst this
    refine .d (.tup (by simpa using h.1) fun i d c h1 h2=>?_)
    have:=h.2 i (.d d) c (by simp [h1]) h2
    cases this with | d h=>exact h
  · exact .tup h.1 h.2
theorem qr1 {fn : Func} {v : V} (hT : TabOk P T) (h : RelH w Z inj st.hp st.nx) (hs : RelSlots w Z inj st.nx st.sl a.tmps) (hr : resV T st fn.results.toList = some v) : ∃ x,(results fn a.tmps).run P w = .ok x w∧RelV w Z inj st.nx v x:=by
  unfold resV at hr
  have key : ∀ vs,resL T st fn.results.toList = some vs→∃ xs : List Value,(results fn a.tmps).run P w = .ok (if h : xs.toArray.size = 1 then xs.toArray[0] else .tuple xs.toArray) w∧LRel w Z inj st.nx vs xs.toArray:=by
    intro vs hvs
    unfold results
    generalize hg : (fun x=>match x with | .tmp t=>pure (a.tmps.getD t undef) | .cell p t=>(do loadVar t (← asAddr (a.tmps.getD p undef)) : Sem Value) : ResultVar→Sem Value) = g
    rw [Sem.run_bind,Array.mapM_eq_mapM_toList,Sem.run_map]
    obtain ⟨xs,hxs,hl⟩:=qkf hT h hs g (fun t=>by rw [← hg]) (fun p t=>by rw [← hg]) hvs
    refine ⟨xs,?_,hl⟩
    rw [hxs]
    rfl
  split at hr
  · rename_i v' hvs
    simp at hr;subst hr
    obtain ⟨xs,hx,hl⟩:=key _ hvs
    obtain ⟨y,hy,hrel⟩:=qgg hl
    have : xs = [y]:=by simpa using congrArg Array.toList hy
    subst this
    exact ⟨y,by simpa using hx,hrel⟩
  · rename_i vs hne hvs
    simp at hr;subst hr
    obtain ⟨xs,hx,hl⟩:=key _ hvs
    refine ⟨.tuple xs.toArray,?_,qoa hl⟩
    have : xs.toArray.size≠1:=by
      rw [← hl.1]
      intro hc
      match vs,hc with
      | [x],_=>exact hne x rfl
    rw [dif_neg this] at hx
    exact hx
  · simp at hr
end
end Go.Am
namespace Go.Am
open Go
variable {P : Program} {T : Tab}
section
variable {w : World} {Z : Nat→Prop} {inj : Inj} {hp : List (Nat × Blk)} {nx : Nat}
theorem q8a {α β : Type} {f : α→Option β} : ∀ {l : List α} {r : List β},mapM' f l = some r→r.length = l.length∧∀ (i : Nat) (x : α),l[i]? = some x→∃ y,r[i]? = some y∧f x = some y
  | [],r,h=>by simp [mapM'] at h;subst h;simp
  | x::l,r,h=>by
    simp only [mapM'] at h
    split at h <;> try simp at h
    rename_i y hy
    split at h <;> simp at h
    rename_i r' hr'
    subst h
    obtain ⟨h1,h2⟩:=q8a hr'
    refine ⟨by simp [h1],fun i z hz=>?_⟩
    cases i with
    | zero=>simp at hz;subst hz;exact ⟨y,rfl,hy⟩
    | succ i=>simp at hz;obtain ⟨u,h3,h4⟩:=h2 i z hz;exact ⟨u,by simpa using h3,h4⟩
def zAll (w : World) (Z : Nat→Prop) (inj : Inj) (hp : List (Nat × Blk)) (b : Nat) : Prop:=Z b∨(im hp inj b∧∃ c e f,w.heap[b]? = some (.cells c e f))
theorem qpv {k : Nat} {v : V} {d : DV} (h : toD hp k v = some d) (hc : vCell v = true) : isCell d = true:=by
  cases k with
  | zero=>cases v <;> simp [toD] at h;subst h;exact hc
  | succ k=>
    cases v with
    | d x=>simp [toD] at h;subst h;exact hc
    | agg cs=>simp [vCell] at hc
    | tup cs=>simp [vCell] at hc
    | dead=>simp [vCell] at hc
    | fn f cs=>simp only [toD,Option.map_eq_some_iff] at h;obtain ⟨_,_,rfl⟩:=h;rfl
    | yld n=>simp [toD] at h
    | dref cs j=>simp [toD] at h
    | hs n es o l=>
      simp only [toD] at h
      split at h
      · split at h <;> simp at h;subst h;rfl
      · split at h <;> simp at h;obtain ⟨_,_,rfl⟩:=h;rfl
      · simp at h
    | ref n es i j=>
      simp only [toD] at h
      split at h
      · split at h <;> simp at h;subst h;rfl
      · split at h <;> simp at h;obtain ⟨_,_,rfl⟩:=h;rfl
      · simp at h
theorem qcg (h : RelH w Z inj hp nx) : ∀ (k : Nat) {v : V} {x : Value} {d : DV},toD hp k v = some d→RelV w Z inj nx v x→RelD w (zAll w Z inj hp) d x
  | 0,v,x,d,hd,hv=>by
    cases v <;> simp [toD] at hd
    subst hd
    cases hv with | d hv=>exact hv.mono (fun _ _=>rfl) (fun _ hz=>.inl hz)
  | k + 1,v,x,d,hd,hv=>by
    have hz : ∀ b,Z b→zAll w Z inj hp b:=fun _ hz=>.inl hz
    have ih:=fun {v : V} {x : Value} {d : DV}=>qcg h k (v:=v) (x:=x) (d:=d)
    have list : ∀ {cs : List V} {ds : List DV} {xs : Array Value},mapM' (toD hp k) cs = some ds→cs.length = xs.size→(∀ (i : Nat) (d : V) (c : Value),cs[i]? = some d→xs[i]? = some c→RelV w Z inj nx d c)→
        ds.length = xs.size∧∀ (i : Nat) (d : DV) (c : Value),ds[i]? = some d→xs[i]? = some c→RelD w (zAll w Z inj hp) d c:=by
      intro cs ds xs hm hl hr
      obtain ⟨h1,h2⟩:=q8a hm
      refine ⟨by omega,fun i d c hd hc=>?_⟩
      obtain ⟨y,hy⟩:=q3y h1 hd
      obtain ⟨d',hd',hf⟩:=h2 i y hy
      rw [hd] at hd';cases hd'
      exact ih hf (hr i y c hy hc)
    cases v with
    | d y=>simp [toD] at hd;subst hd;cases hv with | d hv=>exact hv.mono (fun _ _=>rfl) hz
    | agg cs=>
      simp only [toD,Option.map_eq_some_iff] at hd
      obtain ⟨ds,hm,rfl⟩:=hd
      cases hv with | agg h1 h2=>obtain ⟨a,b⟩:=list hm h1 h2;exact .agg a b
    | tup cs=>
      simp only [toD,Option.map_eq_some_iff] at hd
      obtain ⟨ds,hm,rfl⟩:=hd
      cases hv with | tup h1 h2=>obtain ⟨a,b⟩:=list hm h1 h2;exact .tup a b
    | fn f cs=>
      simp only [toD,Option.map_eq_some_iff] at hd
      obtain ⟨ds,hm,rfl⟩:=hd
      cases hv with | fn h1 h2=>obtain ⟨a,b⟩:=list hm h1 h2;exact .fn a b
    | dead=>simp [toD] at hd
    | yld n=>simp [toD] at hd
    | dref cs j=>simp [toD] at hd
    | hs n es o l=>
      have key : ∀ (rows : List (List DV)) (blk : Blk),rows.length = l→find hp n = some blk→live blk = true→(∀ (i : Nat) (x : List DV),rows[i]? = some x→x.length = es)→
          (∀ b o',inj n = some (b,o')→∃ arr ty,w.heap[b]? = some (.cells arr ty (0,0))∧∀ (i : Nat) (x : List DV) (j : Nat) (d : DV),rows[i]? = some x→x[j]? = some d→isCell d = true∧∃ c,arr[o' + ((o + i) * es + j)]? = some c∧RelD w (zAll w Z inj hp) d c)→
          RelD w (zAll w Z inj hp) (.sl es rows) x:=by
        intro rows blk hlen hb hlive hrow hcell
        cases hv with
        | hsnil h1=>
          have : rows = []:=List.length_eq_zero_iff.1 hlen
          subst this;exact .slnil es
        | @hs _ _ _ _ cap ad h1 h2 h3 h4=>
          obtain ⟨bb,oo,sp⟩:=ad
          simp only at h3;subst h3
          by_cases h0 : l = 0
          · have : rows = []:=List.length_eq_zero_iff.1 (by omega)
            subst this;subst h0
            exact RelD.sl (es:=es) (xs:=[]) (by simp) (by simp) (by simp) (by simp) (by simp)
          · obtain ⟨b,o',e1,e2,e3⟩:=h4 (by omega)
            rw [e2]
            obtain ⟨arr,ty,b5,b6⟩:=hcell b o' e1
            have e9 : ∀ i j,o' + o * es + (i * es + j) = o' + ((o + i) * es + j):=by intro i j;rw [Nat.add_mul];omega
            have hc : ∀ (i : Nat) (x : List DV) (j : Nat) (d : DV),rows[i]? = some x→x[j]? = some d→isCell d = true∧∃ c,w.cell? ⟨b,o' + o * es + (i * es + j),none⟩ = some c∧RelD w (zAll w Z inj hp) d c:=by
              intro i x j d hx hd
              obtain ⟨c1,c,c2,c3⟩:=b6 _ x j d hx hd
              exact ⟨c1,c,by rw [e9];simp only [World.cell?,b5];exact c2,c3⟩
            have:=RelD.sl (w:=w) (Z:=zAll w Z inj hp) (es:=es) (xs:=rows) (b:=b) (o:=o' + o * es) (cap:=cap) (by rw [hlen];exact h2) (fun _=>.inr ⟨⟨n,blk,o',hb,hlive,e1⟩,_,_,_,b5⟩) hrow
              (fun i x j d hx hd=>by obtain ⟨c1,c,c2,_⟩:=hc i x j d hx hd;exact ⟨c1,c,c2⟩)
              (fun i x j d c hx hd hcc=>by obtain ⟨_,c',c2,c3⟩:=hc i x j d hx hd;rw [c2] at hcc;cases hcc;exact c3)
            rw [hlen] at this
            exact this
      simp only [toD] at hd
      split at hd
      · rename_i m xs hb
        split at hd <;> simp at hd
        rename_i hle
        obtain ⟨hle,rfl⟩:=hle
        subst hd
        obtain ⟨b1,b2,b3⟩:=(h.blk n _ hb).2
        have hget : ∀ (i : Nat) (x : List DV),((xs.drop o).take l)[i]? = some x→xs[o + i]? = some x:=by
          intro i x hx
          rw [List.getElem?_take] at hx
          split at hx
          · rwa [List.getElem?_drop] at hx
          · simp at hx
        refine key _ _ (by simp;omega) hb rfl (fun i x hx=>b2 _ _ (hget i x hx)) ?_
        intro b o' hi
        rcases b3 with ⟨_,b4⟩ | ⟨b',o'',arr,ty,b4,b5,b6⟩
        · rw [hi] at b4;cases b4
        · rw [hi] at b4;cases b4
          refine ⟨arr,ty,b5,fun i x j d hx hd=>?_⟩
          obtain ⟨c1,c,c2,c3⟩:=b6 _ x j d (hget i x hx) hd
          exact ⟨c1,c,c2,c3.mono (fun _ _=>rfl) hz⟩
      · rename_i m xs hb
        split at hd <;> simp at hd
        rename_i hle
        obtain ⟨hle,rfl⟩:=hle
        obtain ⟨rows,hm,rfl⟩:=hd
        obtain ⟨m1,m2⟩:=q8a hm
        obtain ⟨b1,b2,b3⟩:=(h.blk n _ hb).2
        have hget : ∀ (i : Nat) (x : List V),((xs.drop o).take l)[i]? = some x→xs[o + i]? = some x:=by
          intro i x hx
          rw [List.getElem?_take] at hx
          split at hx
          · rwa [List.getElem?_drop] at hx
          · simp at hx
        have hrow : ∀ (i : Nat) (x : List DV),rows[i]? = some x→∃ y,xs[o + i]? = some y∧mapM' (toD hp k) y = some x:=by
          intro i x hx
          obtain ⟨y,hy⟩:=q3y m1 hx
          obtain ⟨x',hx',hf⟩:=m2 i y hy
          rw [hx] at hx';cases hx'
          exact ⟨y,hget _ _ hy,hf⟩
        refine key rows _ (by simp at m1;omega) hb rfl (fun i x hx=>by obtain ⟨y,hy,hf⟩:=hrow i x hx;rw [(q8a hf).1];exact b2 _ _ hy) ?_
        intro b o' hi
        rcases b3 with ⟨_,b4⟩ | ⟨b',o'',arr,ty,b4,b5,b6⟩
        · rw [hi] at b4;cases b4
        · rw [hi] at b4;cases b4
          refine ⟨arr,ty,b5,fun i x j d hx hd=>?_⟩
          obtain ⟨y,hy,hf⟩:=hrow i x hx
          obtain ⟨f1,f2⟩:=q8a hf
          obtain ⟨u,hu⟩:=q3y f1 hd
          obtain ⟨d',hd',hfd⟩:=f2 j u hu
          rw [hd] at hd';cases hd'
          obtain ⟨c1,c,c2,c3⟩:=b6 _ y j u hy hu
          exact ⟨qpv hfd c1,c,c2,ih hfd c3⟩
      · simp at hd
    | ref n es i j=>
      have key : ∀ (row : List DV) (blk : Blk),i = 0→j = 0→find hp n = some blk→live blk = true→
          (∀ b o',inj n = some (b,o')→∃ arr ty,w.heap[b]? = some (.cells arr ty (0,0))∧∀ (j : Nat) (d : DV),row[j]? = some d→∃ c,arr[o' + j]? = some c∧RelD w (zAll w Z inj hp) d c)→
          RelD w (zAll w Z inj hp) (.box row) x:=by
        intro row blk hi hj hb hlive hcell
        subst hi hj
        cases hv with | @ref _ _ _ _ b o h1 h2=>
        obtain ⟨arr,ty,b5,b6⟩:=hcell b o h2
        have hc : ∀ (j : Nat) (d : DV),row[j]? = some d→∃ c,w.cell? ⟨b,o + (0 * es + 0) + j,none⟩ = some c∧RelD w (zAll w Z inj hp) d c:=by
          intro j d hd
          obtain ⟨c,c2,c3⟩:=b6 j d hd
          exact ⟨c,by simp only [World.cell?,b5];rw [← c2];simp,c3⟩
        exact .box (.inr ⟨⟨n,blk,o,hb,hlive,h2⟩,_,_,_,b5⟩) (fun j d hd=>by obtain ⟨c,c2,_⟩:=hc j d hd;exact ⟨c,c2⟩)
          (fun j d c hd hcc=>by obtain ⟨c',c2,c3⟩:=hc j d hd;rw [c2] at hcc;cases hcc;exact c3)
      simp only [toD] at hd
      split at hd
      · rename_i m xs hb
        split at hd <;> simp at hd
        subst hd
        obtain ⟨b1,b2,b3⟩:=(h.blk n _ hb).2
        refine key _ _ rfl rfl hb rfl ?_
        intro b o' hi
        rcases b3 with ⟨b4,_⟩ | ⟨b',o'',arr,ty,b4,b5,b6⟩
        · simp at b4
        · rw [hi] at b4;cases b4
          refine ⟨arr,ty,b5,fun j d hd=>?_⟩
          obtain ⟨_,c,c2,c3⟩:=b6 0 _ j d rfl hd
          exact ⟨c,by rw [← c2];simp,c3.mono (fun _ _=>rfl) hz⟩
      · rename_i m xs hb
        split at hd <;> simp at hd
        obtain ⟨row,hm,rfl⟩:=hd
        obtain ⟨b1,b2,b3⟩:=(h.blk n _ hb).2
        refine key _ _ rfl rfl hb rfl ?_
        intro b o' hi
        rcases b3 with ⟨b4,_⟩ | ⟨b',o'',arr,ty,b4,b5,b6⟩
        · simp at b4
        · rw [hi] at b4;cases b4
          refine ⟨arr,ty,b5,fun j d hd=>?_⟩
          obtain ⟨f1,f2⟩:=q8a hm
          obtain ⟨u,hu⟩:=q3y f1 hd
          obtain ⟨d',hd',hfd⟩:=f2 j u hu
          rw [hd] at hd';cases hd'
          obtain ⟨_,c,c2,c3⟩:=b6 0 _ j u rfl hu
          exact ⟨c,by rw [← c2];simp,ih hfd c3⟩
      · simp at hd
theorem qdi (h : RelH w Z inj hp nx) : ∀ {vs : List V} {ds : List DV},allFrozen hp vs = some ds→ds.length = vs.length∧∀ (i : Nat) (v : V),vs[i]? = some v→∃ d,ds[i]? = some d∧toD hp 8 v = some d
  | [],ds,hd=>by simp [allFrozen] at hd;subst hd;simp
  | v::r,ds,hd=>by
    simp only [allFrozen] at hd
    split at hd <;> simp at hd
    rename_i x l h1 h2
    subst hd
    obtain ⟨a,b⟩:=qdi h h2
    refine ⟨by simp [a],fun i u hu=>?_⟩
    cases i with
    | zero=>simp at hu;subst hu;exact ⟨x,rfl,h1⟩
    | succ i=>simp at hu;obtain ⟨d,h3,h4⟩:=b i u hu;exact ⟨d,by simpa using h3,h4⟩
theorem qlz (h : RelH w Z inj hp nx) {vs : List V} {ds : List DV} {xs : Array Value} (hd : allFrozen hp vs = some ds) (hl : LRel w Z inj nx vs xs) (inj' : Inj) : LRel w (zAll w Z inj hp) inj' 0 (ds.map .d) xs:=by
  obtain ⟨a,b⟩:=qdi h hd
  refine ⟨by simpa [a] using hl.1,fun i d c h1 h2=>?_⟩
  simp only [List.getElem?_map,Option.map_eq_some_iff] at h1
  obtain ⟨d',h1,rfl⟩:=h1
  obtain ⟨v,hv⟩:=q3y a h1
  obtain ⟨d2,h3,h4⟩:=b i v hv
  rw [h1] at h3;cases h3
  exact .d (qcg h 8 h4 (hl.2 i v c hv h2))
theorem qob {vs : List V} {ds : List DV} {xs : Array Value} (hd : allFrozen hp vs = some ds) (hv : vs.all V.isD = true) (hl : LRel w Z inj nx vs xs) (inj' : Inj) : LRel w Z inj' 0 (ds.map .d) xs:=by
  have e : ∀ {vs : List V} {ds : List DV},allFrozen hp vs = some ds→vs.all V.isD = true→ds.map .d = vs:=by
    intro vs
    induction vs with
    | nil=>intro ds hd _;simp [allFrozen] at hd;subst hd;rfl
    | cons v r ih=>
      intro ds hd hv
      simp only [allFrozen] at hd
      split at hd <;> simp at hd
      rename_i x l h1 h2
      subst hd
      simp only [List.all_cons,Bool.and_eq_true] at hv
      obtain ⟨hv1,hv2⟩:=hv
      cases v <;> simp [V.isD] at hv1
      simp [toD] at h1;subst h1
      rw [List.map_cons,ih h2 hv2]
  refine ⟨by rw [e hd hv];exact hl.1,fun i d c h1 h2=>?_⟩
  rw [e hd hv] at h1
  have hx : V.isD d = true:=(List.all_eq_true.1 hv) d (List.mem_of_getElem? h1)
  have:=hl.2 i d c h1 h2
  cases this <;> simp [V.isD] at hx
  exact .d ‹_›
theorem qng {Z Z' : Nat→Prop} {d : DV} {x : Value} (h : RelD w Z d x) (hs : d.scalar = true) : RelD w Z' d x:=by
  have go : ∀ {ds : List DV},DV.scalar.go ds = true→∀ (i : Nat) (d : DV),ds[i]? = some d→(∀ {x : Value},RelD w Z d x→RelD w Z' d x):=by
    intro ds
    induction ds with
    | nil=>intro _ i d h;simp at h
    | cons y r ih=>
      intro hg i d hd
      cases i with
      | zero=>
        simp at hd;subst hd
        intro x hx
        cases y <;> simp [DV.scalar.go] at hg <;> cases hx <;> constructor
      | succ i=>
        simp at hd
        refine ih ?_ i d hd
        cases y <;> simp [DV.scalar.go] at hg <;> exact hg
  cases d <;> simp [DV.scalar] at hs
  case tup ds=>cases h with | tup h1 h2=>exact .tup h1 fun i d c hd hc=>go hs i d hd (h2 i d c hd hc)
  case agg ds=>cases h with | agg h1 h2=>exact .agg h1 fun i d c hd hc=>go hs i d hd (h2 i d c hd hc)
  all_goals (cases h <;> constructor)
end
end Go.Am
namespace Go.Am
open Go
variable {P : Program} {T : Tab}
def Fw (ro : Option Nat) : Fence:={fn:=fun _=>True,depth:=none,alive:=false,round:=ro}
def toE : Ex→Exit
  | .nor=>.normal
  | .exit id=>.exit id
  | .ret=>.ret
def roundOk (ro : Option Nat) (w : World) : Prop:=∀ l,ro = some l→∃ r,w.heap[l]? = some (.loop r)
def PostAt (base : Nat) (w : World) (Z : Nat→Prop) (inj : Inj) (st : AS) (a : Act) (Ds : List Nat) (st' : AS) (a' : Act) (w' : World) : Prop:=
  ∃ Z' inj' Ds',RelS w' Z' inj' st' a' Ds'∧Ext w Z inj st.hp w' Z' inj' st'.hp base∧a'.tmps.size = a.tmps.size∧base≤st'.nx∧∀ D∈Ds',D∈Ds∨w.heap.size≤D
section
variable {base : Nat} {w : World} {Z : Nat→Prop} {inj : Inj} {st st' st'' : AS} {a a' a'' : Act} {Ds : List Nat} {w' w'' : World}
theorem PostAt.refl (h : RelS w Z inj st a Ds) (hb : base≤st.nx) : PostAt base w Z inj st a Ds st a w:=⟨Z,inj,Ds,h,.refl,rfl,hb,fun _ h=>.inl h⟩
theorem roundOk.ext {ro : Option Nat} {Z' : Nat→Prop} {inj' : Inj} {hp hp' : List (Nat × Blk)} {pin : Nat} (h : roundOk ro w) (e : Ext w Z inj hp w' Z' inj' hp' pin) : roundOk ro w':=
  fun l hl=>let ⟨r,hr⟩:=h l hl;let ⟨r',h',_⟩:=e.loops l r hr;⟨r',h'⟩
theorem PostAt.bind {Q : Prop} (p : PostAt base w Z inj st a Ds st' a' w') (h : ∀ Z' inj' Ds',RelS w' Z' inj' st' a' Ds'→a'.tmps.size = a.tmps.size→base≤st'.nx→(∀ ro,roundOk ro w→roundOk ro w')→
    (∀ st'' a'' w'',PostAt base w' Z' inj' st' a' Ds' st'' a'' w''→PostAt base w Z inj st a Ds st'' a'' w'')→Q) : Q:=by
  obtain ⟨Z',inj',Ds',h1,h2,h3,h4,h5⟩:=p
  refine h Z' inj' Ds' h1 h3 h4 (fun ro hr=>hr.ext h2) ?_
  rintro st'' a'' w'' ⟨Z2,i2,D2,k1,k2,k3,k4,k5⟩
  refine ⟨Z2,i2,D2,k1,h2.trans k2 (Nat.le_refl _),k3.trans h3,k4,fun D hD=>?_⟩
  rcases k5 D hD with h | h
  · exact h5 D h
  · exact .inr (Nat.le_trans h2.size h)
theorem qoc {n : Nat} {t : Tmp} (h : dstOk n (some t) = true) : t < n:=by simpa [dstOk,Nat.blt_eq] using h
theorem qkg (a : Act) (d : Option Tmp) (v : Value) : (a.put d v).tmps.size = a.tmps.size:=by cases d <;> simp [Act.put]
theorem RelSlots.put {nx : Nat} {s : List (Nat × V)} {tmps : Array Value} {v : V} {x : Value} {t : Tmp} (h : RelSlots w Z inj nx s tmps) (hv : RelV w Z inj nx v x) (ht : t < tmps.size) : RelSlots w Z inj nx ((t,v)::s) (tmps.setIfInBounds t x):=by
  intro u y hy
  rw [q1q] at hy
  split at hy
  · rename_i e;subst e;cases hy
    exact ⟨x,by simp [ht],hv⟩
  · rename_i e
    obtain ⟨z,hz,hr⟩:=h u y hy
    exact ⟨z,by rw [Array.getElem?_setIfInBounds_ne e];exact hz,hr⟩
theorem qod {Z' : Nat→Prop} {inj' : Inj} {hp' : List (Nat × Blk)} {nx' : Nat} {v : V} {x : Value} {dst : Option Tmp} (h : RelS w Z inj st a Ds) (e : Ext w Z inj st.hp w' Z' inj' hp' st.nx) (hh : RelH w' Z' inj' hp' nx') (hn : st.nx≤nx')
    (hv : RelV w' Z' inj' nx' v x) (hd : dstOk a.tmps.size dst = true) : RelS w' Z' inj' ({sl:=st.sl,hp:=hp',nx:=nx' : AS}.putD dst v) (a.put dst x) Ds:=by
  have hs : RelSlots w' Z' inj' nx' st.sl a.tmps:=h.slots.mono (e.zkeep h.heap) e.zin e.big e.pinj hn
  cases dst with
  | none=>exact ⟨hs,hh,h.defs,h.nodup,fun D hD=>e.marks h.heap (h.marks D hD)⟩
  | some t=>exact ⟨hs.put hv (qoc hd),hh,h.defs,h.nodup,fun D hD=>e.marks h.heap (h.marks D hD)⟩
theorem q49 (st : AS) (d : Option Tmp) (v : V) : (st.putD d v).hp = st.hp:=by cases d <;> rfl
theorem q4a (st : AS) (d : Option Tmp) (v : V) : (st.putD d v).nx = st.nx:=by cases d <;> rfl
theorem q7z {Z' : Nat→Prop} {inj' : Inj} {hp' : List (Nat × Blk)} {nx' : Nat} {v : V} {x : Value} {dst : Option Tmp} (h : RelS w Z inj st a Ds) (hb : base≤st.nx) (e : Ext w Z inj st.hp w' Z' inj' hp' st.nx) (hh : RelH w' Z' inj' hp' nx') (hn : st.nx≤nx')
    (hv : RelV w' Z' inj' nx' v x) (hd : dstOk a.tmps.size dst = true) : PostAt base w Z inj st a Ds ({sl:=st.sl,hp:=hp',nx:=nx' : AS}.putD dst v) (a.put dst x) w':=
  ⟨Z',inj',Ds,qod h e hh hn hv hd,by rw [q49];exact e.pin_le hb,qkg _ _ _,by rw [q4a];exact Nat.le_trans hb hn,fun _ h=>.inl h⟩
def stepO (P : Program) (F : Fence) (ops : Array Oper) (Q : Exit→Act→World→Prop) (o : Oper) (K : Act→World→Prop) (a : Act) (w : World) : Prop:=
  if Region.wanted o (yielded ops a.tmps) then o.wpIn F 0 P a w K Q else (∀ f,o.about P w a.eval = some f→F.fn f)∧K (a.put o.dst undef) w
theorem qkh {F : Fence} {ops : Array Oper} {Q : Exit→Act→World→Prop} {o : Oper} {K : Act→World→Prop} {i : Nat} (hi : ops[i]? = some o) (h : stepO P F ops Q o K a w) : wpOpIn F 0 P ops Q i K a w:=by
  unfold wpOpIn;rw [hi];exact h
def SeqGood (P : Program) (base : Nat) (ops : Array Oper) (o : Oper) (st st' : AS) : Prop:=
  ∀ (ro : Option Nat) (Q : Exit→Act→World→Prop) (w : World) (Z : Nat→Prop) (inj : Inj) (a : Act) (Ds : List Nat) (K : Act→World→Prop),RelS w Z inj st a Ds→dstOk a.tmps.size o.dst = true→base≤st.nx→roundOk ro w→
    (∀ a' w',PostAt base w Z inj st a Ds st' a' w'→K a' w')→stepO P (Fw ro) ops Q o K a w
theorem q6e {ops : Array Oper} {o : Oper} {b : Bool} (h : RelS w Z inj st a Ds) (hg : guardOk ops st o = some b) : Region.wanted o (yielded ops a.tmps) = b:=by
  unfold guardOk at hg
  unfold Region.wanted
  cases hgo : o.guard with
  | none=>rw [hgo] at hg;simp at hg;simp [hg]
  | some jw=>
    obtain ⟨j,want⟩:=jw
    rw [hgo] at hg
    simp only at hg ⊢
    cases hd : (ops[j]?).bind (·.dst) with
    | none=>rw [hd] at hg;simp at hg
    | some t=>
      rw [hd] at hg
      simp only at hg
      unfold yielded
      rw [hd]
      split at hg
      · rename_i bb hv
        obtain ⟨x,hx,hr⟩:=h.slots t _ hv
        cases hr with | d hr=>
        cases hr
        simp at hg
        simp [hx,hg]
      · rename_i hv
        obtain ⟨x,hx,hr⟩:=h.slots t _ hv
        cases hr with | d hr=>
        cases hr
        simp at hg
        simp [hx,← hg]
      · simp at hg
theorem qoe {nx : Nat} : RelV w Z inj nx (.d (.tup [])) undef:=.d (.tup (by simp) (by simp))
theorem qit {ops : Array Oper} {o : Oper} (hg : guardOk ops st o = some false) : SeqGood P base ops o st (st.putD o.dst (.d (.tup []))):=by
  intro ro Q w Z inj a Ds K h hd hb _ hK
  unfold stepO
  rw [q6e h hg]
  simp only [Bool.false_eq_true,if_false]
  exact ⟨fun _ _=>trivial,hK _ _ (q7z h hb .refl h.heap (Nat.le_refl _) qoe hd)⟩
theorem qfy {op : Op} {v : V} {st1 : AS} (ho : opFn T st op = some (v,st1)) : ∀ c,op≠.defer c:=by
  rintro c rfl;simp [opFn] at ho
theorem qhz {ops : Array Oper} {o : Oper} {v : V} {st1 : AS} (hT : TabOk P T) (hg : guardOk ops st o = some true) (ho : opFn T st o.op = some (v,st1)) : SeqGood P base ops o st (st1.putD o.dst v):=by
  intro ro Q w Z inj a Ds K h hd hb _ hK
  unfold stepO
  rw [q6e h hg]
  simp only [if_true]
  refine ⟨fun _ _=>trivial,?_⟩
  rw [show (Fw ro).round = ro from rfl,Oper.semAt_eq ro _ o (qfy ho)]
  obtain ⟨x,w',inj',hr,hv,hh,he,hsl,hn⟩:=qke hT h ho
  obtain ⟨sl1,hp1,nx1⟩:=st1
  simp only at hsl hn hv hh he;subst hsl
  have hpost:=q7z h hb he hh hn hv hd
  rcases hr with hr | ⟨hr,rfl⟩
  · rw [hr];exact hK _ _ hpost
  · rw [hr];exact hK _ _ hpost
def CallGood (P : Program) (f : FuncId) (vs : List V) (hp : List (Nat × Blk)) (nx : Nat) (v : V) (hp' : List (Nat × Blk)) (nx' : Nat) : Prop:=
  (∀ (args : Array Value) (w : World),(callFunc f args).run P w = .ok (.enter f args) w)∧
  ∀ (w : World) (Z : Nat→Prop) (inj : Inj) (xs : Array Value),RelH w Z inj hp nx→LRel w Z inj nx vs xs→
    CallsIn (Fw none) 0 P f xs w (fun e w'=>∃ x Z' inj',e = .returned x∧RelH w' Z' inj' hp' nx'∧Ext w Z inj hp w' Z' inj' hp' nx∧RelV w' Z' inj' nx' v x∧nx≤nx')
theorem qcw {c : Call} {o : Oper} {f : FuncId} {vs : List V} (h : RelS w Z inj st a Ds) (ho : o.op = .call c) (hc : callee st c = some (f,vs)) (hcall : ∀ (args : Array Value) (w : World),(callFunc f args).run P w = .ok (.enter f args) w) :
    ∃ xs,(execOp a.eval o).run P w = .ok (.enter f xs) w∧LRel w Z inj st.nx vs xs:=by
  obtain ⟨dst,op,type,pos,after,guard⟩:=o
  simp only at ho;subst ho
  obtain ⟨cal,args,argTypes⟩:=c
  unfold callee at hc
  simp only at hc
  cases cal <;> simp only [reduceCtorEq] at hc
  rename_i g
  have app : ∀ {as caps : List V} {xs ys : Array Value},LRel w Z inj st.nx as xs→LRel w Z inj st.nx caps ys→LRel w Z inj st.nx (as ++ caps) (xs ++ ys):=by
    intro as caps xs ys h1 h2
    refine ⟨by simp [h1.1,h2.1],fun i d c hd hc=>?_⟩
    by_cases hi : i < as.length
    · rw [List.getElem?_append_left hi] at hd
      rw [Array.getElem?_append_left (by rw [← h1.1];exact hi)] at hc
      exact h1.2 i d c hd hc
    · rw [List.getElem?_append_right (by omega)] at hd
      rw [Array.getElem?_append_right (by rw [← h1.1];omega),← h1.1] at hc
      exact h2.2 _ d c hd hc
  have e2 : (args.toList.map a.eval).toArray = args.map a.eval:=by apply Array.ext';simp
  split at hc <;> simp at hc
  · rename_i f' caps vs' hf hv
    obtain ⟨rfl,rfl⟩:=hc
    have hr:=q24 h hf
    generalize hge : a.eval g = gv at hr
    cases hr with | d hr=>
    cases hr with | @fn _ _ cs h1 h2=>
    have hl:=qcf h hv
    rw [e2] at hl
    refine ⟨args.map a.eval ++ cs,?_,app hl ⟨by simpa using h1,fun i d c hd hc=>?_⟩⟩
    · simp [execOp,resolve,hge,Deferred.ofValue,invoke,hcall]
    · simp only [List.getElem?_map,Option.map_eq_some_iff] at hd
      obtain ⟨d',hd,rfl⟩:=hd
      exact .d (h2 i d' c hd hc)
  · rename_i f' caps vs' hf hv
    obtain ⟨rfl,rfl⟩:=hc
    have hr:=q24 h hf
    generalize hge : a.eval g = gv at hr
    cases hr with | @fn _ _ cs h1 h2=>
    have hl:=qcf h hv
    rw [e2] at hl
    refine ⟨args.map a.eval ++ cs,?_,app hl ⟨h1,h2⟩⟩
    simp [execOp,resolve,hge,Deferred.ofValue,invoke,hcall]
theorem qnh {ops : Array Oper} {o : Oper} {c : Call} {f : FuncId} {vs : List V} {v : V} {hp' : List (Nat × Blk)} {nx' : Nat} (hg : guardOk ops st o = some true) (ho : o.op = .call c) (hc : callee st c = some (f,vs))
    (hgood : CallGood P f vs st.hp st.nx v hp' nx') : SeqGood P base ops o st ({sl:=st.sl,hp:=hp',nx:=nx' : AS}.putD o.dst v):=by
  intro ro Q w Z inj a Ds K h hd hb _ hK
  unfold stepO
  rw [q6e h hg]
  simp only [if_true]
  refine ⟨fun _ _=>trivial,?_⟩
  obtain ⟨xs,hr,hl⟩:=qcw h ho hc hgood.1
  rw [show (Fw ro).round = ro from rfl,Oper.semAt_eq ro _ o (by rintro c' h';rw [ho] at h';cases h'),hr,Oper.uponIn_enter]
  refine ⟨fun h=>by simp [Fw] at h,?_⟩
  refine CallsIn.mono (hgood.2 w Z inj xs h.heap hl) ?_
  rintro e w' ⟨x,Z',inj',rfl,hh,he,hv,hn⟩
  exact hK _ _ (q7z h hb he hh hn hv hd)
theorem qha {ops : Array Oper} {o : Oper} {c : Call} {f : FuncId} {vs : List V} {ds : List DV} {v : V} {hp' : List (Nat × Blk)} {nx' : Nat} {r' r : DV} (hg : guardOk ops st o = some true) (ho : o.op = .call c) (hc : callee st c = some (f,vs))
    (hfz : allFrozen st.hp vs = some ds) (hgood : CallGood P f (ds.map .d) [] 0 v hp' nx') (hto : toD hp' 8 v = some r') (hle : DLe r' r) (hs : vs.all V.isD = true∨r.scalar = true) : SeqGood P base ops o st (st.putD o.dst (.d r)):=by
  intro ro Q w Z inj a Ds K h hd hb _ hK
  unfold stepO
  rw [q6e h hg]
  simp only [if_true]
  refine ⟨fun _ _=>trivial,?_⟩
  obtain ⟨xs,hr,hl⟩:=qcw h ho hc hgood.1
  rw [show (Fw ro).round = ro from rfl,Oper.semAt_eq ro _ o (by rintro c' h';rw [ho] at h';cases h'),hr,Oper.uponIn_enter]
  refine ⟨fun h=>by simp [Fw] at h,?_⟩
  have noim : ∀ (i : Inj) b,¬ im ([] : List (Nat × Blk)) i b:=by rintro i b ⟨n,blk,o,h1,_⟩;simp [find] at h1
  have keep : ∀ {Z0 : Nat→Prop} {w' : World} {Z' : Nat→Prop} {inj' : Inj},Ext w Z0 inj [] w' Z' inj' hp' 0→∀ b,b < w.heap.size→w'.heap[b]? = w.heap[b]?:=fun e b hb=>e.keep b hb (noim _ b)
  have back : ∀ {Z0 : Nat→Prop} {w' : World} {Z' : Nat→Prop} {inj' : Inj} (Z2 : Nat→Prop),Ext w Z0 inj [] w' Z' inj' hp' 0→(∀ b,Z b→Z2 b)→(∀ b,Z2 b→Z b∨w.heap.size≤b)→(∀ b,Z2 b→∃ c e f,w'.heap[b]? = some (.cells c e f))→
      RelH w' Z2 inj st.hp st.nx∧Ext w Z inj st.hp w' Z2 inj st.hp st.nx:=by
    intro Z0 w' Z' inj' Z2 e hz1 hz2 hz3
    have hk:=keep e
    have hE : Ext w Z inj st.hp w' Z2 inj st.hp st.nx:=⟨e.size,fun b hb _=>hk b hb,fun _ h=>.inl h,e.big,e.loops,hz1,fun b hb=>(hz2 b hb).elim .inl (fun h=>.inr (.inr h)),fun _ _=>rfl,e.tape,e.os,e.output,e.frz⟩
    refine ⟨⟨fun n b hn=>?_,h.heap.sep,?_,?_,hz3⟩,hE⟩
    · obtain ⟨h1,h2⟩:=h.heap.blk n b hn
      refine ⟨h1,h2.mono (hE.zkeep h.heap) hz1 e.big (fun _ _=>rfl) (Nat.le_refl _) h1 fun p hp hlv=>hk _ (h.heap.im_lt ⟨n,b,p.2,hn,hlv,hp⟩)⟩
    · intro n b p h1 h2 h3 hz
      rcases hz2 _ hz with h4 | h4
      · exact h.heap.out n b p h1 h2 h3 h4
      · have:=h.heap.im_lt (b:=p.1) ⟨n,b,p.2,h1,h2,h3⟩;omega
    · intro b hb
      obtain ⟨c,e',f',hc⟩:=hz3 b hb
      exact q6c hc
  rcases hs with hs | hs
  ·
    have h0 : RelH w Z inj [] 0:=⟨fun _ _ h=>by simp [find] at h,fun _ _ _ _ _ _ h=>by simp [find] at h,fun _ _ _ h=>by simp [find] at h,h.heap.zs,h.heap.zc⟩
    refine CallsIn.mono (hgood.2 w Z inj xs h0 (qob hfz hs hl inj)) ?_
    rintro e w' ⟨x,Z',inj',rfl,hh,he,hv,hn⟩
    have hD:=(qcg hh 8 hto hv).le hle
    obtain ⟨hh2,he2⟩:=back (zAll w' Z' inj' hp') he (fun b hb=>.inl (he.zin b hb))
      (fun b hb=>by
        rcases hb with hb | ⟨hb,_⟩
        · rcases he.zout b hb with h | h | h
          · exact .inl h
          · exact absurd h (noim _ _)
          · exact .inr h
        · rcases he.imm b hb with h | h
          · exact absurd h (noim _ _)
          · exact .inr h)
      (fun b hb=>by
        rcases hb with hb | ⟨_,hb⟩
        · exact hh.zc b hb
        · exact hb)
    exact hK _ _ (q7z h hb he2 hh2 (Nat.le_refl _) (.d hD) hd)
  ·
    have h0 : RelH w (zAll w Z inj st.hp) inj [] 0:=⟨fun _ _ h=>by simp [find] at h,fun _ _ _ _ _ _ h=>by simp [find] at h,fun _ _ _ h=>by simp [find] at h,
      fun b hb=>by
        rcases hb with hb | ⟨hb,_⟩
        · exact h.heap.zs b hb
        · exact h.heap.im_lt hb,
      fun b hb=>by
        rcases hb with hb | ⟨_,hb⟩
        · exact h.heap.zc b hb
        · exact hb⟩
    refine CallsIn.mono (hgood.2 w _ inj xs h0 (qlz h.heap hfz hl inj)) ?_
    rintro e w' ⟨x,Z',inj',rfl,hh,he,hv,hn⟩
    have hD:=(qcg hh 8 hto hv).le hle
    obtain ⟨hh2,he2⟩:=back Z he (fun _ h=>h) (fun _ h=>.inl h) (fun b hb=>by rw [keep he b (h.heap.zs b hb)];exact h.heap.zc b hb)
    exact hK _ _ (q7z h hb he2 hh2 (Nat.le_refl _) (.d (qng hD hs)) hd)
end
end Go.Am
