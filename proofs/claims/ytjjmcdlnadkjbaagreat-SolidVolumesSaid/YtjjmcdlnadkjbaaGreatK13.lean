/- Rs4 -/
import Derived.Test.YtjjmcdlnadkjbaaGreatK12
namespace Go.Sh
open Go Go.Am
theorem qhh {α β γ : Type} (l : List α) (_ : l.length≤1000000) (g : γ→α→γ) (fin : γ→β) (f : γ × Int→Option ((γ × Int) ⊕ β))
    (hs : ∀ k (h : k < l.length) (s : γ),f (s,(k : Int)) = some (.inl (g s l[k],((k + 1 : Nat) : Int)))) (hd : ∀ s,f (s,(l.length : Int)) = some (.inr (fin s))) (s : γ) :
    loop f (s,0) = some (fin (l.foldl g s)):=by
  have key:=Zj (f:=f) (fun k=>((l.take k).foldl g s,(k : Int))) l.length (fin (l.foldl g s)) (fun k hk=>by
    rw [hs k hk,List.take_succ_eq_append_getElem hk,List.foldl_append];rfl) (by rw [List.take_length,hd]) (Nat.zero_le _)
  exact key
theorem qfg (x : Int) : w64 x = if 9223372036854775808≤x % 18446744073709551616 then x % 18446744073709551616 - 18446744073709551616 else x % 18446744073709551616:=by
  unfold w64 IntKind.wrap
  simp [IntKind.bits,IntKind.signed]
theorem qmj (x y : Int) (h : x % 18446744073709551616 = y % 18446744073709551616) : w64 x = w64 y:=by rw [qfg,qfg,h]
theorem qmk (x : Int) : w64 x % 18446744073709551616 = x % 18446744073709551616:=by rw [qfg];split <;> omega
theorem qmi (a b : Int) : w64 (w64 a + b) = w64 (a + b):=qmj _ _ (by have:=qmk a;omega)
theorem qzo (a b : Int) : w64 (a - w64 b) = w64 (a - b):=qmj _ _ (by have:=qmk b;omega)
theorem qaz {x y z : Int} (hx : 0≤x∧x≤2000000) (hy : 0≤y∧y≤2000000) (hz : 0≤z∧z≤2000000) : (0≤x * y∧x * y≤4000000000000)∧0≤x * y * z∧x * y * z≤8000000000000000000:=by
  have h1 : 0≤x * y:=Int.mul_nonneg hx.1 hy.1
  have h2 : x * y≤2000000 * 2000000:=Int.mul_le_mul hx.2 hy.2 hy.1 (by omega)
  have h3 : 0≤x * y * z:=Int.mul_nonneg h1 hz.1
  have h4 : x * y * z≤4000000000000 * 2000000:=Int.mul_le_mul (by omega) hz.2 hz.1 (by omega)
  omega
theorem qzl {b : qf} (h : vB b) : w64 ((w64 ((w64 (b.Hi.X - b.Lo.X)) * (w64 (b.Hi.Y - b.Lo.Y)))) * (w64 (b.Hi.Z - b.Lo.Z))) = volB b:=by
  unfold vB at h
  rw [Q0 (x:=b.Hi.X - b.Lo.X) (by omega),Q0 (x:=b.Hi.Y - b.Lo.Y) (by omega),Q0 (x:=b.Hi.Z - b.Lo.Z) (by omega)]
  have:=qaz (x:=b.Hi.X - b.Lo.X) (y:=b.Hi.Y - b.Lo.Y) (z:=b.Hi.Z - b.Lo.Z) (by omega) (by omega) (by omega)
  rw [Q0 (x:=(b.Hi.X - b.Lo.X) * (b.Hi.Y - b.Lo.Y)) (by omega),Q0 (by omega)];rfl
theorem qdd {α : Type} (f : α→Int) : ∀ (l : List α) (n m : Int),n = w64 m→l.foldl (fun n b=>w64 (n + f b)) n = w64 (m + sumL f l)
  | [],n,m,h=>by simp [sumL,h]
  | b::l,n,m,h=>by
    rw [List.foldl_cons,qdd f l _ (m + f b) (by rw [h,qmi]),sumL,Int.add_assoc]
theorem qhl {α γ : Type} {f g : γ→α→γ} : ∀ {l : List α} {s : γ},(∀ b∈l,∀ s,f s b = g s b)→l.foldl f s = l.foldl g s
  | [],_,_=>rfl
  | b::l,s,h=>by rw [List.foldl_cons,List.foldl_cons,h b (by simp),qhl fun c hc=>h c (by simp [hc])]
theorem qgf (N : Nat) (P : Int→Int→Int→Prop) : 0≤cnt3 N P∧cnt3 N P≤2 * N * (2 * N * (2 * N * 1)):=by
  constructor
  · exact qfd fun x _ _=>qfd fun y _ _=>qfd fun z _ _=>q4n.1
  · rw [← qfc (N:=N) (c:=1),← qfc,← qfc]
    exact qc7 fun x _ _=>qc7 fun y _ _=>qc7 fun z _ _=>q4n.2
theorem q9s {l : List qf} (h : Qi l = 0) : 0≤volL l∧volL l≤8000000000000000000:=by
  obtain ⟨h1,h2,h3⟩:=Ke.1 h
  rw [q9t h3 h2]
  have:=qgf 1000000 (hasB l)
  omega
noncomputable def volume (l : List qf) : Int × Int:=if Qi l≠0 then (0,Qi l) else (volL l,0)
theorem qzk {l : List qf} (h : Qi l = 0) : l.foldl (fun n b=>w64 (n + w64 ((w64 ((w64 (b.Hi.X - b.Lo.X)) * (w64 (b.Hi.Y - b.Lo.Y)))) * (w64 (b.Hi.Z - b.Lo.Z))))) 0 = volL l:=by
  obtain ⟨h1,h2,h3⟩:=Ke.1 h
  rw [qhl (g:=fun n b=>w64 (n + volB b)) fun b hb s=>by rw [qzl (h2 b hb)]]
  rw [qdd volB l 0 0 (by rw [Q0 (by omega)])]
  have:=q9s h
  rw [Q0 (by unfold volL at this;omega),Int.zero_add];rfl
theorem qlb (l : List qf) : q14 l = some (volume l):=by
  unfold q14 volume
  rw [q98,Option.bind_some]
  by_cases h : Qi l = 0
  · rw [if_neg (by simp [h]),h,show ((0 : Int) != 0) = false from rfl,cond_false]
    have hl:=(Ke.1 h).1
    rw [qhh l (by omega) (fun n b=>w64 (n + w64 ((w64 ((w64 (b.Hi.X - b.Lo.X)) * (w64 (b.Hi.Y - b.Lo.Y)))) * (w64 (b.Hi.Z - b.Lo.Z))))) (fun n=>n) (q6p l) (fun k hk s=>by
      simp only [q6p,dlt hk,cond_true,Qk hk,Option.bind_some,q6u,w64s hk (by omega)]) (fun s=>by simp only [q6p,dnl,cond_false]) 0,qzk h]
    rfl
  · have : (Qi l != 0) = true:=by simpa using h
    rw [if_pos h,this,cond_true]
theorem qi5 {b : qf} {l : List qf} {x y z : Int} : hasB (b::l) x y z↔inB b x y z∨hasB l x y z:=by
  constructor
  · rintro ⟨c,hc,h⟩
    rcases List.mem_cons.1 hc with rfl | hc
    · exact .inl h
    · exact .inr ⟨c,hc,h⟩
  · rintro (h | ⟨c,hc,h⟩)
    · exact ⟨b,by simp,h⟩
    · exact ⟨c,by simp [hc],h⟩
instance (b : qf) (x y z : Int) : Decidable (inB b x y z):=by unfold inB;infer_instance
instance qoo : (l : List qf)→(x y z : Int)→Decidable (hasB l x y z)
  | [],x,y,z=>isFalse (q4l x y z)
  | b::l,x,y,z=>by
    have:=qoo l x y z
    exact decidable_of_iff _ qi5.symm
theorem qsr (b : qf) (v : qy) : qk5 b v = some (decide (inB b v.X v.Y v.Z)):=by
  unfold qk5 inB
  by_cases h1 : b.Lo.X≤v.X <;> by_cases h2 : v.X < b.Hi.X <;> by_cases h3 : b.Lo.Y≤v.Y <;> by_cases h4 : v.Y < b.Hi.Y <;> by_cases h5 : b.Lo.Z≤v.Z <;> by_cases h6 : v.Z < b.Hi.Z <;> simp [h1,h2,h3,h4,h5,h6]
theorem qxz (b : qf) (v : qy) : q6n b v = some (decide (inB b v.X v.Y v.Z)):=qsr b v
theorem qbr (l : List qf) (v : qy) (hl : l.length≤1000000) : Jc l v = some (decide (hasB l v.X v.Y v.Z)):=by
  unfold Jc q3h q8f
  rcases q1g l (fun b=>decide (inB b v.X v.Y v.Z)) (fun k _=>(k : Int)) () (Ua l (fun x0=>q6n x0 v)) (fun k hk=>by
    simp only [Ua,dlt hk,cond_true,Qk hk,Option.bind_some,qxz,w64s hk hl]
    by_cases hv : inB l[k] v.X v.Y v.Z <;> simp [hv]) (by simp only [Ua,dnl,cond_false]) with ⟨h1,h2⟩ | ⟨k,hk,hc,_,h2⟩
  · rw [h2]
    simp only [Option.bind_some]
    congr 1
    rw [show decide ((-1 : Int) ≥ 0) = false from rfl]
    refine (decide_eq_false ?_).symm
    rintro ⟨b,hb,h⟩
    have:=h1 b hb
    simp at this
    exact this h
  · rw [h2]
    simp only [Option.bind_some]
    congr 1
    rw [decide_eq_true (by omega : (k : Int) ≥ 0)]
    refine (decide_eq_true ?_).symm
    exact ⟨l[k],List.getElem_mem hk,of_decide_eq_true hc⟩
theorem qsq (l : List qf) : q5b l = some (decide ((30 < l.length∧l.length≤400)∨420 < l.length)):=by
  unfold q5b
  by_cases h1 : 30 < l.length
  · rw [decide_eq_true (by omega : (l.length : Int) > 30),cond_true]
    by_cases h2 : l.length≤400
    · rw [decide_eq_true (by omega : (l.length : Int)≤400)]
      simp only [Option.bind_some,cond_true]
      congr 1
      exact (decide_eq_true (.inl ⟨h1,h2⟩)).symm
    · rw [decide_eq_false (by omega : ¬ (l.length : Int)≤400)]
      simp only [Option.bind_some,cond_false]
      congr 1
      exact decide_eq_decide.2 (by omega)
  · rw [decide_eq_false (by omega : ¬ (l.length : Int) > 30),cond_false]
    simp only [Option.bind_some,cond_false]
    congr 1
    exact decide_eq_decide.2 (by omega)
theorem qdq (kind : Int) (p q : List qf) : (jB kind p q).1.length≤400:=by
  unfold jB
  repeat' split
  all_goals simp
  omega
theorem q10c (p q : List qf) : qal p q = some true:=by
  unfold qal
  simp only [qsq,Option.bind_some]
  by_cases h1 : (30 < p.length∧p.length≤400)∨420 < p.length
  · simp only [decide_eq_true h1,cond_true,Option.bind_some]
  · by_cases h2 : (30 < q.length∧q.length≤400)∨420 < q.length
    · simp only [decide_eq_true h2,decide_eq_false h1,cond_true,cond_false,Option.bind_some]
    · have hs : Qi p = 0→Qi q = 0→p.length + q.length≤400:=fun hp hq=>by
        have:=(Ke.1 hp).1
        have:=(Ke.1 hq).1
        omega
      have l1:=qdq 1 p q
      have l2:=qdq 2 p q
      have l3:=qdq 3 p q
      simp only [decide_eq_false h2,decide_eq_false h1,cond_false,Option.bind_some,qf5,qf2,qf3,qss _ p q hs,beq_self_eq_true,cond_true,
        sameBox _ _ (by omega : (jB 1 p q).1.length≤1000000),sameBox _ _ (by omega : (jB 2 p q).1.length≤1000000),sameBox _ _ (by omega : (jB 3 p q).1.length≤1000000),decide_true]
end Go.Sh
