/- Pf3 Rs5 Rs6 -/
import Derived.Test.YtjjmcdlnadkjbaaGreatK12
namespace Go.Sh
open Go Go.Am
theorem qz1 {n : Int} (h : (Lit.int .u8 n).wf = true) : 0≤n:=by
  simp [Lit.wf,IntKind.min,IntKind.max,IntKind.signed,IntKind.bits] at h
  omega
abbrev V3:=ql × ql × ql
def zeroV : ql:=⟨0,0,0⟩
noncomputable def axT (t : Nat) : V3:=match q6p (t : Int) with
  | some m=>m
  | none=>(zeroV,zeroV,zeroV)
theorem qnc : ∀ t : Nat,t < 24→q6p (t : Int) = some (axT t):=by decide +kernel
noncomputable def qj1 (t : Nat) : List Int:=match iter (q74 (t : Int)) 7 (0,[]) with
  | some b=>b
  | none=>[]
theorem qnw : ∀ t : Nat,t < 24→iter (q74 (t : Int)) 7 (0,[]) = some (qj1 t):=by decide +kernel
theorem qny : ∀ t : Nat,t < 24→((idx (qj1 t) (Int.tmod (t : Int) 4)).bind fun v21=>(Jy (w64 (Int.tdiv (t : Int) 4))).bind fun r23=>(Jy v21).bind fun r25=>(Jy (w64 (Int.tdiv (t : Int) 4))).bind fun r27=>(Jy v21).bind fun r29=>(qab r27 r29).bind fun r31=>some (r23,r25,r31)) = some (axT t):=by decide +kernel
theorem qnx (t : Nat) (h : t < 24) : q73 (t : Int) = some (axT t):=by
  unfold q73
  rw [q4e.2 ⟨7,qnw t h⟩]
  exact qny t h
def Yk (v : ql) : Prop:=-1≤v.X∧v.X≤1∧-1≤v.Y∧v.Y≤1∧-1≤v.Z∧v.Z≤1
instance (v : ql) : Decidable (Yk v):=by unfold Yk;infer_instance
theorem qex : ∀ t : Nat,t < 24→Yk (axT t).1∧Yk (axT t).2.1∧Yk (axT t).2.2:=by decide +kernel
def mulV (m : V3) (v : ql) : ql:=⟨v.X * m.1.X + v.Y * m.2.1.X + v.Z * m.2.2.X,v.X * m.1.Y + v.Y * m.2.1.Y + v.Z * m.2.2.Y,v.X * m.1.Z + v.Y * m.2.1.Z + v.Z * m.2.2.Z⟩
def addV (a b : ql) : ql:=⟨a.X + b.X,a.Y + b.Y,a.Z + b.Z⟩
def Y9 (v : ql) (n : Int) : Prop:=-n≤v.X∧v.X≤n∧-n≤v.Y∧v.Y≤n∧-n≤v.Z∧v.Z≤n
theorem qox {a b : Int} {n : Int} (ha : -n≤a∧a≤n) (hb : -1≤b∧b≤1) : -n≤a * b∧a * b≤n:=by
  have : b = -1∨b = 0∨b = 1:=by omega
  rcases this with rfl | rfl | rfl <;> simp <;> omega
theorem qcy {m : V3} {v : ql} {n : Int} (hm : Yk m.1∧Yk m.2.1∧Yk m.2.2) (hv : Y9 v n) :
    (∀ a∈[v.X * m.1.X,v.Y * m.2.1.X,v.Z * m.2.2.X,v.X * m.1.Y,v.Y * m.2.1.Y,v.Z * m.2.2.Y,v.X * m.1.Z,v.Y * m.2.1.Z,v.Z * m.2.2.Z],-n≤a∧a≤n):=by
  obtain ⟨⟨a1,a2,a3,a4,a5,a6⟩,⟨b1,b2,b3,b4,b5,b6⟩,⟨c1,c2,c3,c4,c5,c6⟩⟩:=hm
  obtain ⟨v1,v2,v3,v4,v5,v6⟩:=hv
  intro a ha
  simp only [List.mem_cons,List.not_mem_nil,or_false] at ha
  rcases ha with rfl | rfl | rfl | rfl | rfl | rfl | rfl | rfl | rfl <;> exact qox ⟨by assumption,by assumption⟩ ⟨by assumption,by assumption⟩
theorem qhr {m : V3} {v : ql} {n : Int} (hm : Yk m.1∧Yk m.2.1∧Yk m.2.2) (hv : Y9 v n) : Y9 (mulV m v) (3 * n):=by
  have b:=qcy hm hv
  simp only [List.mem_cons,List.not_mem_nil,or_false,forall_eq_or_imp,forall_eq] at b
  unfold Y9 mulV
  simp only
  omega
theorem qnh {m : V3} {v : ql} (hm : Yk m.1∧Yk m.2.1∧Yk m.2.2) (hv : Y9 v 1000000000000) : q6r m v = some (mulV m v):=by
  have b:=qcy hm hv
  simp only [List.mem_cons,List.not_mem_nil,or_false,forall_eq_or_imp,forall_eq] at b
  unfold q6r mulV
  congr 2
  · rw [qu (x:=v.X * m.1.X) (by omega),qu (x:=v.Y * m.2.1.X) (by omega),qu (x:=v.Z * m.2.2.X) (by omega),qu (x:=v.X * m.1.X + _) (by omega),qu (by omega)]
  · rw [qu (x:=v.X * m.1.Y) (by omega),qu (x:=v.Y * m.2.1.Y) (by omega),qu (x:=v.Z * m.2.2.Y) (by omega),qu (x:=v.X * m.1.Y + _) (by omega),qu (by omega)]
  · rw [qu (x:=v.X * m.1.Z) (by omega),qu (x:=v.Y * m.2.1.Z) (by omega),qu (x:=v.Z * m.2.2.Z) (by omega),qu (x:=v.X * m.1.Z + _) (by omega),qu (by omega)]
theorem qr4 {m : V3} {v : ql} (hm : Yk m.1∧Yk m.2.1∧Yk m.2.2) (hv : Y9 v 1000000000000) : q75 m v = some (mulV m v):=by
  have b:=qcy hm hv
  simp only [List.mem_cons,List.not_mem_nil,or_false,forall_eq_or_imp,forall_eq] at b
  unfold q75 q4r q2x mulV
  simp only [Option.bind_some]
  congr 2
  · rw [qu (x:=v.X * m.1.X) (by omega),qu (x:=v.Y * m.2.1.X) (by omega),qu (x:=v.Z * m.2.2.X) (by omega),qu (x:=v.Y * m.2.1.X + _) (by omega),qu (by omega)];omega
  · rw [qu (x:=v.X * m.1.Y) (by omega),qu (x:=v.Y * m.2.1.Y) (by omega),qu (x:=v.Z * m.2.2.Y) (by omega),qu (x:=v.Y * m.2.1.Y + _) (by omega),qu (by omega)];omega
  · rw [qu (x:=v.X * m.1.Z) (by omega),qu (x:=v.Y * m.2.1.Z) (by omega),qu (x:=v.Z * m.2.2.Z) (by omega),qu (x:=v.Y * m.2.1.Z + _) (by omega),qu (by omega)];omega
noncomputable def Ky (t : Nat) (at_ v : ql) : ql:=addV (mulV (axT t) v) at_
theorem qnf {f : Qx} {t : Nat} {v : ql} (ht : f.Turn = t) (h : t < 24) (ha : Y9 f.At 1000000000000) (hv : Y9 v 1000000000000) : q6q f v = some (Ky t f.At v):=by
  have hu:=qex t h
  unfold q6q
  rw [ht,qnc t h]
  simp only [Option.bind_some,qnh hu hv]
  have b:=qhr hu hv
  unfold Y9 at b ha
  unfold Ky addV
  rw [qu (by omega),qu (by omega),qu (by omega)]
theorem qim {f : Qx} {t : Nat} {v : ql} (ht : f.Turn = t) (h : t < 24) (ha : Y9 f.At 1000000000000) (hv : Y9 v 1000000000000) : q4q f v = some (Ky t f.At v):=by
  have hu:=qex t h
  unfold q4q
  rw [ht,qu (by omega),qnx t h]
  simp only [Option.bind_some,qr4 hu hv]
  have b:=qhr hu hv
  unfold Y9 at b ha
  unfold Ky addV q2x
  simp only [Option.bind_some]
  rw [qu (by omega),qu (by omega),qu (by omega)]
def InV (v : ql) (lo : Int) : Prop:=lo≤v.X∧v.X≤1000000∧lo≤v.Y∧v.Y≤1000000∧lo≤v.Z∧v.Z≤1000000
instance (v : ql) (lo : Int) : Decidable (InV v lo):=by unfold InV;infer_instance
theorem qg4 (v : ql) (lo : Int) : q2e v lo = some (decide (InV v lo)):=by
  unfold q2e
  by_cases a : min (min v.X v.Y) v.Z ≥ lo
  · by_cases b : max (max v.X v.Y) v.Z≤1000000
    · have : InV v lo:=by unfold InV;omega
      simp only [decide_eq_true a,decide_eq_true b,decide_eq_true this,cond_true,Option.bind_some]
    · have : ¬ InV v lo:=by unfold InV;omega
      simp only [decide_eq_true a,decide_eq_false b,decide_eq_false this,cond_true,Option.bind_some]
  · have : ¬ InV v lo:=by unfold InV;omega
    simp only [decide_eq_false a,decide_eq_false this,cond_false,Option.bind_some]
theorem qkq (v : ql) (lo : Int) : Uo v lo = some (decide (InV v lo)):=by
  unfold Uo InV
  by_cases a : v.X ≥ lo <;> by_cases b : v.Y ≥ lo <;> by_cases c : v.Z ≥ lo <;> by_cases d : v.X≤1000000 <;> by_cases e : v.Y≤1000000 <;> by_cases f : v.Z≤1000000 <;> simp [a,b,c,d,e,f] <;> omega
def FOk (f : Qx) : Prop:=f.Turn < 24∧InV f.At (-1000000)
instance (f : Qx) : Decidable (FOk f):=by unfold FOk;infer_instance
def SOk (s : qer) : Prop:=FOk s.Frame∧InV s.Size 0
instance (s : qer) : Decidable (SOk s):=by unfold SOk;infer_instance
theorem qf4 {P Q : Prop} [Decidable P] [Decidable Q] {R : Prop} [Decidable R] (h : R↔P∧Q) : ((cond (decide (¬ P)) (some true) ((some (decide Q)).bind fun r10=>some (!r10))).bind fun c3=>cond c3 (some (8 : Int)) (some 0)) = some (if R then 0 else 8):=by
  by_cases p : P <;> by_cases q : Q <;> simp [p,q,h]
theorem qgh (f : Qx) : q48 f = some (if FOk f then 0 else 8):=by
  unfold q48
  rw [qg4]
  have e : decide (f.Turn ≥ 24) = decide (¬ f.Turn < 24):=by rw [decide_eq_decide];omega
  rw [e]
  exact qf4 Iff.rfl
theorem qr0 (f : Qx) : q4p f = some (if FOk f then 0 else 8):=by
  unfold q4p
  rw [qkq]
  have e : decide (f.Turn ≥ 24) = decide (¬ f.Turn < 24):=by rw [decide_eq_decide];omega
  rw [e]
  exact qf4 Iff.rfl
theorem q9x {v : ql} {lo : Int} (h : InV v lo) (hl : -1000000≤lo) : Y9 v 1000000000000:=by unfold InV at h;unfold Y9;omega
end Go.Sh
namespace Go.Sh
open Go Go.Am
def J2 : qd:={Lo:=({X:=0,Y:=0,Z:=0} : ql),Hi:=({X:=0,Y:=0,Z:=0} : ql)}
def Ka (h b : qd) : qd:={Lo:=({X:=min h.Lo.X b.Lo.X,Y:=min h.Lo.Y b.Lo.Y,Z:=min h.Lo.Z b.Lo.Z} : ql),Hi:=({X:=max h.Hi.X b.Hi.X,Y:=max h.Hi.Y b.Hi.Y,Z:=max h.Hi.Z b.Hi.Z} : ql)}
def qnu : List qd→qd
  | []=>J2
  | b::l=>(b::l).foldl Ka b
noncomputable def hull (l : List qd) : qd × Int:=if K2 l≠0 then (J2,K2 l) else if l = [] then (J2,6) else (qnu l,0)
theorem qh1 (l : List qd) (hl : l.length≤1000000) (f : Int × Int × Int × Int × Int × Int × Int→Option ((Int × Int × Int × Int × Int × Int × Int) ⊕ (Int × Int × Int × Int × Int × Int)))
    (hs : ∀ k (h : k < l.length) (s : qd),f ((k : Int),s.Lo.X,s.Lo.Y,s.Lo.Z,s.Hi.X,s.Hi.Y,s.Hi.Z) = some (.inl (((k + 1 : Nat) : Int),(Ka s l[k]).Lo.X,(Ka s l[k]).Lo.Y,(Ka s l[k]).Lo.Z,(Ka s l[k]).Hi.X,(Ka s l[k]).Hi.Y,(Ka s l[k]).Hi.Z)))
    (hd : ∀ s : qd,f ((l.length : Int),s.Lo.X,s.Lo.Y,s.Lo.Z,s.Hi.X,s.Hi.Y,s.Hi.Z) = some (.inr (s.Lo.X,s.Lo.Y,s.Lo.Z,s.Hi.X,s.Hi.Y,s.Hi.Z))) (s : qd) (k : Nat) (hk : k≤l.length) :
    loop f ((k : Int),((l.take k).foldl Ka s).Lo.X,((l.take k).foldl Ka s).Lo.Y,((l.take k).foldl Ka s).Lo.Z,((l.take k).foldl Ka s).Hi.X,((l.take k).foldl Ka s).Hi.Y,((l.take k).foldl Ka s).Hi.Z) =
      some ((l.foldl Ka s).Lo.X,(l.foldl Ka s).Lo.Y,(l.foldl Ka s).Lo.Z,(l.foldl Ka s).Hi.X,(l.foldl Ka s).Hi.Y,(l.foldl Ka s).Hi.Z):=
  Yu (f:=f) (fun k=>((k : Int),((l.take k).foldl Ka s).Lo.X,((l.take k).foldl Ka s).Lo.Y,((l.take k).foldl Ka s).Lo.Z,((l.take k).foldl Ka s).Hi.X,((l.take k).foldl Ka s).Hi.Y,((l.take k).foldl Ka s).Hi.Z)) l.length _ (fun k hk=>by
    rw [hs k hk,List.take_succ_eq_append_getElem hk,List.foldl_append];rfl) (by rw [List.take_length,hd]) hk
theorem qnv (b : qd) : Ka b b = b:=by unfold Ka;simp
theorem qwj (l : List qd) : q8m l = some (hull l):=by
  unfold q8m hull
  rw [qar,Option.bind_some]
  by_cases h : ¬ K2 l = 0
  · have : (K2 l != 0) = true:=by simpa using h
    rw [if_pos h,this,cond_true];rfl
  replace h:=Classical.not_not.1 h
  have hl:=(Jh.1 h).1
  rw [if_neg (by simp [h]),h,show ((0 : Int) != 0) = false from rfl,cond_false]
  cases l with
  | nil=>rfl
  | cons b l=>
    have e1 : ((((b::l).length : Int)) == 0) = false:=by simp;omega
    have key:=qh1 (b::l) (by omega) (q3j (b::l)) (fun k hk s=>by
      simp only [q3j,dlt hk,cond_true,Qf hk,Option.bind_some,w64s hk (by omega)];rfl) (fun s=>by simp only [q3j,dnl,cond_false]) b 0 (Nat.zero_le _)
    have key : loop (q3j (b::l)) (0,b.Lo.X,b.Lo.Y,b.Lo.Z,b.Hi.X,b.Hi.Y,b.Hi.Z) = _:=key
    rw [e1,cond_false,show idx (b::l) 0 = some b from rfl,Option.bind_some,key,if_neg (by simp)]
    rfl
theorem qrb (l : List qd) : q7a l = some (hull l):=by
  unfold q7a hull
  simp only [qad,Option.bind_some]
  by_cases h : ¬ K2 l = 0
  · have : (K2 l != 0) = true:=by simpa using h
    rw [if_pos h,this,cond_true];rfl
  replace h:=Classical.not_not.1 h
  have hl:=(Jh.1 h).1
  rw [if_neg (by simp [h]),h,show ((0 : Int) != 0) = false from rfl,cond_false]
  cases l with
  | nil=>rfl
  | cons b l=>
    have e1 : ((((b::l).length : Int)) == 0) = false:=by simp;omega
    have key:=qh1 (b::l) (by omega) (q30 (b::l)) (fun k hk s=>by
      simp only [q30,dlt hk,cond_true,Qf hk,Option.bind_some,w64s hk (by omega)];rfl) (fun s=>by simp only [q30,dnl,cond_false]) b 1 (by simp)
    have e2 : ((b::l).take 1).foldl Ka b = b:=qnv b
    rw [e2] at key
    have key : loop (q30 (b::l)) (1,b.Lo.X,b.Lo.Y,b.Lo.Z,b.Hi.X,b.Hi.Y,b.Hi.Z) = _:=key
    rw [e1,cond_false,show idx (b::l) 0 = some b from rfl,Option.bind_some,key,if_neg (by simp)]
    rfl
noncomputable def q37 (l : List qd) (z : Int) : List qh × Int:=if K2 l≠0 then ([],K2 l) else (atB l z,0)
theorem qwq (l : List qd) (z : Int) : q8p l z = some (q37 l z):=by
  unfold q8p q37
  rw [qar,Option.bind_some]
  by_cases h : ¬ K2 l = 0
  · have : (K2 l != 0) = true:=by simpa using h
    rw [if_pos h,this,cond_true]
  replace h:=Classical.not_not.1 h
  have hl:=(Jh.1 h).1
  rw [if_neg (by simp [h]),h,show ((0 : Int) != 0) = false from rfl,cond_false]
  have e : qat = q22:=rfl
  rw [e,qbm l hl z];rfl
theorem qrj (l : List qd) (z : Int) : q7f l z = some (q37 l z):=by
  unfold q7f q37
  simp only [qad,Option.bind_some]
  by_cases h : ¬ K2 l = 0
  · have : (K2 l != 0) = true:=by simpa using h
    rw [if_pos h,this,cond_true]
  replace h:=Classical.not_not.1 h
  obtain ⟨hl,hv,hc⟩:=Jh.1 h
  have hn:=Zu l z
  rw [if_neg (by simp [h]),h,show ((0 : Int) != 0) = false from rfl,cond_false,q76 l (by omega)]
  rw [Option.bind_some,q2r 2 (by simp;omega),Option.bind_some,qow (by omega) (hc.at z)]
def rowOk (a b c : Int) : Prop:=(a = 1∧b = 0∧c = 0)∨(a = -1∧b = 0∧c = 0)∨(a = 0∧b = 1∧c = 0)∨(a = 0∧b = -1∧c = 0)∨(a = 0∧b = 0∧c = 1)∨(a = 0∧b = 0∧c = -1)
instance (a b c : Int) : Decidable (rowOk a b c):=by unfold rowOk;infer_instance
theorem ql4 : ∀ t : Nat,t < 24→rowOk (axT t).1.X (axT t).2.1.X (axT t).2.2.X∧rowOk (axT t).1.Y (axT t).2.1.Y (axT t).2.2.Y∧rowOk (axT t).1.Z (axT t).2.1.Z (axT t).2.2.Z:=by decide +kernel
theorem qdp {a b c x y z u v w : Int} (h : rowOk a b c) (hx : x < u) (hy : y < v) (hz : z < w) : x * a + y * b + z * c≠u * a + v * b + w * c:=by
  rcases h with ⟨rfl,rfl,rfl⟩ | ⟨rfl,rfl,rfl⟩ | ⟨rfl,rfl,rfl⟩ | ⟨rfl,rfl,rfl⟩ | ⟨rfl,rfl,rfl⟩ | ⟨rfl,rfl,rfl⟩ <;> omega
def qjz (p q : ql) : qd:={Lo:=({X:=min p.X q.X,Y:=min p.Y q.Y,Z:=min p.Z q.Z} : ql),Hi:=({X:=max p.X q.X,Y:=max p.Y q.Y,Z:=max p.Z q.Z} : ql)}
noncomputable def Yv (t : Nat) (at_ : ql) (b : qd) : qd:=qjz (Ky t at_ b.Lo) (Ky t at_ b.Hi)
theorem qqm {t : Nat} (h : t < 24) (at_ : ql) {b : qd} (hb : ltB b) : (Ky t at_ b.Lo).X≠(Ky t at_ b.Hi).X∧(Ky t at_ b.Lo).Y≠(Ky t at_ b.Hi).Y∧(Ky t at_ b.Lo).Z≠(Ky t at_ b.Hi).Z:=by
  obtain ⟨h1,h2,h3⟩:=ql4 t h
  unfold Ky addV mulV
  have e1:=qdp h1 hb.1 hb.2.1 hb.2.2
  have e2:=qdp h2 hb.1 hb.2.1 hb.2.2
  have e3:=qdp h3 hb.1 hb.2.1 hb.2.2
  simp only
  omega
theorem qkh {t : Nat} (h : t < 24) (at_ : ql) {b : qd} (hb : ltB b) : vB (Yv t at_ b)↔InV (Ky t at_ b.Lo) (-1000000)∧InV (Ky t at_ b.Hi) (-1000000):=by
  obtain ⟨h1,h2,h3⟩:=qqm h at_ hb
  unfold Yv qjz vB InV
  simp only
  omega
noncomputable def place (l : List qd) (f : Qx) : List qd × Int:=
  if K2 l≠0 then ([],K2 l) else if ¬ FOk f then ([],8) else if ∀ b∈l,vB (Yv f.Turn.toNat f.At b) then mkB (l.map (Yv f.Turn.toNat f.At)) else ([],16)
theorem qb7 {b : qd} (h : vB b) : Y9 b.Lo 1000000000000∧Y9 b.Hi 1000000000000∧InV b.Lo (-1000000)∧InV b.Hi (-1000000)∧ltB b:=by
  unfold vB at h;unfold Y9 InV ltB;omega
theorem q9f {f : Qx} {t : Nat} (ht : f.Turn = t) (h24 : t < 24) (hf : FOk f) {v : ql} (hv : InV v (-1000000)) : q47 f v = some (if InV (Ky t f.At v) (-1000000) then (Ky t f.At v,0) else (zeroV,16)):=by
  unfold q47
  simp only [qgh,qg4,Option.bind_some,if_pos hf,show ((0 : Int) != 0) = false from rfl,cond_false,decide_eq_true hv,Bool.not_true]
  rw [qnf ht h24 (q9x hf.2 (by omega)) (q9x hv (by omega))]
  simp only [Option.bind_some]
  by_cases hi : InV (Ky t f.At v) (-1000000)
  · rw [if_pos hi];simp [hi]
  · rw [if_neg hi];simp [hi];rfl
theorem qib {l : List qd} (hl : l.length≤400) (P : qd→Prop) [DecidablePred P] (pl : qd→qd) (e : List qd × Int) (f : Int × List qd→Option ((Int × List qd) ⊕ ((List qd) ⊕ (List qd × Int))))
    (hok : ∀ k (h : k < l.length) (o : List qd),o.length = k→P l[k]→f ((k : Int),o) = some (.inl (((k + 1 : Nat) : Int),o ++ [pl l[k]])))
    (hbad : ∀ k (h : k < l.length) (o : List qd),o.length = k→¬ P l[k]→f ((k : Int),o) = some (.inr (.inr e)))
    (hd : ∀ o,f ((l.length : Int),o) = some (.inr (.inl o))) : loop f (0,[]) = some (if ∀ b∈l,P b then .inl (l.map pl) else .inr e):=by
  have main:=qcm (f:=f) (fun k=>((k : Int),(l.take k).map pl)) l.length (fun j=>∀ b,l[j]? = some b→P b) (.inl (l.map pl)) (.inr e)
    (fun k hk hj=>by
      rw [hok k hk _ (by simp;omega) (hj k (Nat.le_refl _) _ (List.getElem?_eq_getElem hk)),List.take_succ_eq_append_getElem hk,List.map_append];rfl)
    (fun k hk _ hb=>hbad k hk _ (by simp;omega) fun h=>hb fun b hb=>by rw [List.getElem?_eq_getElem hk] at hb;cases hb;exact h)
    (fun _=>by rw [List.take_length,hd])
  have h00 : ((((0 : Nat) : Int),(l.take 0).map pl) : Int × List qd) = (0,[]):=rfl
  rw [h00] at main
  rcases main with ⟨h1,h2⟩ | ⟨j,hj,hb,h2⟩
  · rw [h2,if_pos]
    intro b hb
    obtain ⟨i,hi,rfl⟩:=List.getElem_of_mem hb
    exact h1 i hi _ (List.getElem?_eq_getElem hi)
  · rw [h2,if_neg]
    intro h
    exact hb fun b hb=>h b (List.mem_of_getElem? hb)
theorem qwo (l : List qd) (f : Qx) (hf0 : 0≤f.Turn) : q8o l f = some (place l f):=by
  unfold q8o place
  rw [qar,Option.bind_some]
  by_cases h : ¬ K2 l = 0
  · have : (K2 l != 0) = true:=by simpa using h
    rw [if_pos h,this,cond_true]
  replace h:=Classical.not_not.1 h
  obtain ⟨hl,hv,hc⟩:=Jh.1 h
  rw [if_neg (by simp [h]),h,show ((0 : Int) != 0) = false from rfl,cond_false,qgh,Option.bind_some]
  by_cases hf : ¬ FOk f
  · rw [if_neg hf,if_pos hf];rfl
  replace hf:=Classical.not_not.1 hf
  rw [if_pos hf,if_neg (by simp [hf]),show ((0 : Int) != 0) = false from rfl,cond_false]
  have ht : f.Turn = (f.Turn.toNat : Int):=by omega
  have h24 : f.Turn.toNat < 24:=by have:=hf.1;omega
  rw [qib hl (fun b=>vB (Yv f.Turn.toNat f.At b)) (Yv f.Turn.toNat f.At) ([],16) (q3k l f) (fun k hk o ho hP=>by
      obtain ⟨w1,w2,w3,w4,w5⟩:=qb7 (hv _ (List.getElem_mem hk))
      obtain ⟨p1,p2⟩:=(qkh h24 f.At w5).1 hP
      simp only [q3k,dlt hk,cond_true,Qf hk,Option.bind_some,q9f ht h24 hf w3,q9f ht h24 hf w4,if_pos p1,if_pos p2,show ((0 : Int) != 0) = false from rfl,cond_false,w64s hk (by omega)]
      rw [Ke (by simp;omega)];rfl) (fun k hk o ho hP=>by
      obtain ⟨w1,w2,w3,w4,w5⟩:=qb7 (hv _ (List.getElem_mem hk))
      rw [qkh h24 f.At w5] at hP
      simp only [q3k,dlt hk,cond_true,Qf hk,Option.bind_some,q9f ht h24 hf w3,q9f ht h24 hf w4]
      by_cases p1 : InV (Ky f.Turn.toNat f.At l[k].Lo) (-1000000)
      · have p2 : ¬ InV (Ky f.Turn.toNat f.At l[k].Hi) (-1000000):=fun p2=>hP ⟨p1,p2⟩
        rw [if_pos p1,if_neg p2];rfl
      · rw [if_neg p1];rfl) (fun o=>by simp only [q3k,dnl,cond_false])]
  rw [Option.bind_some]
  by_cases hP : ∀ b∈l,vB (Yv f.Turn.toNat f.At b)
  · rw [if_pos hP,if_pos hP]
    simp only [qwm,Option.bind_some]
  · rw [if_neg hP,if_neg hP]
theorem qiq {f : Qx} (hf0 : 0≤f.Turn) (hf : FOk f) {b : qd} (hb : Y9 b.Lo 1000000000000∧Y9 b.Hi 1000000000000) : q7d b f = some (Yv f.Turn.toNat f.At b):=by
  have ht : f.Turn = (f.Turn.toNat : Int):=by omega
  have h24 : f.Turn.toNat < 24:=by have:=hf.1;omega
  unfold q7d
  rw [qim ht h24 (q9x hf.2 (by omega)) hb.1,Option.bind_some,qim ht h24 (q9x hf.2 (by omega)) hb.2];rfl
theorem qrg (l : List qd) (f : Qx) (hf0 : 0≤f.Turn) : q7c l f = some (place l f):=by
  unfold q7c place
  simp only [qad,Option.bind_some]
  by_cases h : ¬ K2 l = 0
  · have : (K2 l != 0) = true:=by simpa using h
    rw [if_pos h,this,cond_true]
  replace h:=Classical.not_not.1 h
  obtain ⟨hl,hv,hc⟩:=Jh.1 h
  rw [if_neg (by simp [h]),h,show ((0 : Int) != 0) = false from rfl,cond_false]
  simp only [qr0,Option.bind_some]
  by_cases hf : ¬ FOk f
  · rw [if_neg hf,if_pos hf];rfl
  replace hf:=Classical.not_not.1 hf
  rw [if_pos hf,if_neg (by simp [hf]),show ((0 : Int) != 0) = false from rfl,cond_false]
  rw [qib hl (fun b=>vB (Yv f.Turn.toNat f.At b)) (Yv f.Turn.toNat f.At) ([],16) (q32 l f) (fun k hk o ho hP=>by
      obtain ⟨w1,w2,w3,w4,w5⟩:=qb7 (hv _ (List.getElem_mem hk))
      simp only [q32,dlt hk,cond_true,Qf hk,Option.bind_some,qiq hf0 hf ⟨w1,w2⟩,w64s hk (by omega)]
      rw [Ke (by simp;omega)]
      have i1 : idx (o ++ [Yv f.Turn.toNat f.At l[k]]) (k : Int) = some (Yv f.Turn.toNat f.At l[k]):=by
        rw [Qf (by simp;omega)];congr 1;rw [List.getElem_append_right (by omega)];simp
      simp only [Option.bind_some,i1,qaf,decide_eq_true hP,Bool.not_true,cond_false]) (fun k hk o ho hP=>by
      obtain ⟨w1,w2,w3,w4,w5⟩:=qb7 (hv _ (List.getElem_mem hk))
      simp only [q32,dlt hk,cond_true,Qf hk,Option.bind_some,qiq hf0 hf ⟨w1,w2⟩]
      rw [Ke (by simp;omega)]
      have i1 : idx (o ++ [Yv f.Turn.toNat f.At l[k]]) (k : Int) = some (Yv f.Turn.toNat f.At l[k]):=by
        rw [Qf (by simp;omega)];congr 1;rw [List.getElem_append_right (by omega)];simp
      simp only [Option.bind_some,i1,qaf,decide_eq_false hP,Bool.not_false,cond_true]) (fun o=>by simp only [q32,dnl,cond_false])]
  rw [Option.bind_some]
  by_cases hP : ∀ b∈l,vB (Yv f.Turn.toNat f.At b)
  · rw [if_pos hP,if_pos hP]
    simp only [qre,Option.bind_some]
  · rw [if_neg hP,if_neg hP]
end Go.Sh
namespace Go.Sh
open Go Go.Am
theorem qya (a b : Int) : w64 (a - w64 b) = w64 (a + -b):=by rw [qyb,Int.sub_eq_add_neg]
theorem q4j {x y : Int} (hx : -2000002≤x∧x≤2000002) (hy : -2000002≤y∧y≤2000002) : -4000008000004≤x * y∧x * y≤4000008000004:=by
  by_cases h1 : 0≤x
  · by_cases h2 : 0≤y
    · have:=Int.mul_le_mul hx.2 hy.2 h2 (by omega);have:=Int.mul_nonneg h1 h2;omega
    · have h3 : 0≤-y:=by omega
      have h4:=Int.mul_le_mul hx.2 (show -y≤2000002 by omega) h3 (by omega);have h5:=Int.mul_nonneg h1 h3;rw [Int.mul_neg] at h4 h5;omega
  · have h1' : 0≤-x:=by omega
    by_cases h2 : 0≤y
    · have h4:=Int.mul_le_mul (show -x≤2000002 by omega) hy.2 h2 (by omega);have h5:=Int.mul_nonneg h1' h2;rw [Int.neg_mul] at h4 h5;omega
    · have h3 : 0≤-y:=by omega
      have h4:=Int.mul_le_mul (show -x≤2000002 by omega) (show -y≤2000002 by omega) h3 (by omega);have h5:=Int.mul_nonneg h1' h3;rw [Int.neg_mul_neg] at h4 h5;omega
theorem qww {b c : qd} (hb : vB b) (hc : vB c) : q8s b c = some (Qt b c):=by
  unfold q8s Qt
  unfold vB at hb hc
  have wx : w64 (min b.Hi.X c.Hi.X - max b.Lo.X c.Lo.X) = min b.Hi.X c.Hi.X - max b.Lo.X c.Lo.X:=qu (by omega)
  have wy : w64 (min b.Hi.Y c.Hi.Y - max b.Lo.Y c.Lo.Y) = min b.Hi.Y c.Hi.Y - max b.Lo.Y c.Lo.Y:=qu (by omega)
  have wz : w64 (min b.Hi.Z c.Hi.Z - max b.Lo.Z c.Lo.Z) = min b.Hi.Z c.Hi.Z - max b.Lo.Z c.Lo.Z:=qu (by omega)
  simp only [wx,wy,wz]
  have bx : -2000002≤min b.Hi.X c.Hi.X - max b.Lo.X c.Lo.X∧min b.Hi.X c.Hi.X - max b.Lo.X c.Lo.X≤2000002:=by omega
  have bY : -2000002≤min b.Hi.Y c.Hi.Y - max b.Lo.Y c.Lo.Y∧min b.Hi.Y c.Hi.Y - max b.Lo.Y c.Lo.Y≤2000002:=by omega
  have bz : -2000002≤min b.Hi.Z c.Hi.Z - max b.Lo.Z c.Lo.Z∧min b.Hi.Z c.Hi.Z - max b.Lo.Z c.Lo.Z≤2000002:=by omega
  generalize min b.Hi.X c.Hi.X - max b.Lo.X c.Lo.X = x at *
  generalize min b.Hi.Y c.Hi.Y - max b.Lo.Y c.Lo.Y = y at *
  generalize min b.Hi.Z c.Hi.Z - max b.Lo.Z c.Lo.Z = z at *
  have p1:=q4j bY bz
  have p2:=q4j bx bz
  have p3:=q4j bx bY
  rw [qu (x:=y * z) (by omega),qu (x:=x * z) (by omega),qu (x:=x * y) (by omega)]
  by_cases x0 : x = 0
  · subst x0
    by_cases y0 : y > 0 <;> by_cases z0 : z > 0 <;> simp [y0,z0]
  · have ex : (x == 0) = false:=by simpa using x0
    by_cases x1 : x > 0
    · by_cases y0 : y = 0
      · subst y0
        by_cases z0 : z > 0 <;> simp [x0,ex,x1,z0]
      · have ey : (y == 0) = false:=by simpa using y0
        by_cases y1 : y > 0
        · by_cases z0 : z = 0
          · subst z0;simp [x0,ex,x1,y0,ey,y1]
          · have ez : (z == 0) = false:=by simpa using z0
            simp [x0,ex,x1,y0,ey,y1,z0,ez]
        · simp [x0,ex,x1,y0,ey,y1]
    · simp [x0,ex,x1]
theorem qn3 {b : qd} (h : vB b) : w64 (2 * (w64 ((w64 ((w64 ((w64 (b.Hi.X - b.Lo.X)) * (w64 (b.Hi.Y - b.Lo.Y)))) + (w64 ((w64 (b.Hi.X - b.Lo.X)) * (w64 (b.Hi.Z - b.Lo.Z)))))) + (w64 ((w64 (b.Hi.Y - b.Lo.Y)) * (w64 (b.Hi.Z - b.Lo.Z))))))) = Yb b:=by
  unfold vB at h
  rw [qu (x:=b.Hi.X - b.Lo.X) (by omega),qu (x:=b.Hi.Y - b.Lo.Y) (by omega),qu (x:=b.Hi.Z - b.Lo.Z) (by omega)]
  have p1:=q4j (x:=b.Hi.X - b.Lo.X) (y:=b.Hi.Y - b.Lo.Y) (by omega) (by omega)
  have p2:=q4j (x:=b.Hi.X - b.Lo.X) (y:=b.Hi.Z - b.Lo.Z) (by omega) (by omega)
  have p3:=q4j (x:=b.Hi.Y - b.Lo.Y) (y:=b.Hi.Z - b.Lo.Z) (by omega) (by omega)
  unfold Yb
  rw [qu (x:=(b.Hi.X - b.Lo.X) * (b.Hi.Y - b.Lo.Y)) (by omega),qu (x:=(b.Hi.X - b.Lo.X) * (b.Hi.Z - b.Lo.Z)) (by omega),qu (x:=(b.Hi.Y - b.Lo.Y) * (b.Hi.Z - b.Lo.Z)) (by omega)]
  rw [qu (x:=(b.Hi.X - b.Lo.X) * (b.Hi.Y - b.Lo.Y) + (b.Hi.X - b.Lo.X) * (b.Hi.Z - b.Lo.Z)) (by omega),qu (x:=(b.Hi.X - b.Lo.X) * (b.Hi.Y - b.Lo.Y) + (b.Hi.X - b.Lo.X) * (b.Hi.Z - b.Lo.Z) + (b.Hi.Y - b.Lo.Y) * (b.Hi.Z - b.Lo.Z)) (by omega),qu (by omega)]
theorem qxv {l : List qd} (hl : l.length≤1000000) (hv : ∀ c∈l,vB c) {b : qd} (hb : vB b) (n m : Int) (hn : n = w64 m) :
    loop (q3m l b) (n,0) = some (w64 (m - 2 * sumL (fun c=>Qt b c) l)):=by
  rw [qga l hl (fun n c=>w64 (n + (-2) * (if vB c then Qt b c else 0))) (fun n=>n) (q3m l b) (fun k hk s=>by
    have hc:=hv _ (List.getElem_mem hk)
    simp only [q3m,dlt hk,cond_true,Qf hk,Option.bind_some,qww hb hc,w64s hk hl,if_pos hc]
    rw [qya]
    have : -(2 * Qt b l[k]) = -2 * Qt b l[k]:=by omega
    rw [this]) (fun s=>by simp only [q3m,dnl,cond_false]) n]
  rw [qc7 (fun c=>-2 * (if vB c then Qt b c else 0)) l n m hn,q93,Zm (g:=fun c=>Qt b c) fun c hc=>by rw [if_pos (hv c hc)]]
  congr 2
  omega
theorem qxx {l : List qd} (hl : l.length≤400) (hv : ∀ c∈l,vB c) : loop (q3l l) (0,0) = some (w64 (Je l)):=by
  have key:=Yu (f:=q3l l) (fun k=>(w64 (sumL Yb (l.take k) - 2 * Z6 Qt l k),(k : Int))) l.length (w64 (Je l)) (fun k hk=>by
    have hb:=hv _ (List.getElem_mem hk)
    have hz : slc l 0 (k : Int) = some (l.take k):=by
      unfold slc;rw [if_pos (by omega)];simp
    have hin:=qxv (l:=l.take k) (by rw [List.length_take];omega) (fun c hc=>hv c (List.mem_of_mem_take hc)) hb (w64 (w64 (sumL Yb (l.take k) - 2 * Z6 Qt l k) + Yb l[k])) (sumL Yb (l.take k) - 2 * Z6 Qt l k + Yb l[k]) (qb8 _ _)
    simp only [q3l,dlt hk,cond_true,Qf hk,Option.bind_some,qau,hz,qn3 hb,hin,w64s hk (by omega)]
    congr 3
    rw [List.take_succ_eq_append_getElem hk,q68]
    simp only [Z6,List.getElem?_eq_getElem hk,sumL,Int.add_zero]
    congr 1
    omega) (by
    simp only [q3l,dnl,cond_false,List.take_length];rfl) (Nat.zero_le _)
  have h0 : (w64 (sumL Yb (l.take 0) - 2 * Z6 Qt l 0),((0 : Nat) : Int)) = ((0 : Int),(0 : Int)):=by
    simp [sumL,Z6]
    exact qu (by omega)
  rw [h0] at key
  exact key
theorem qmf (b c : qd) : 0≤Qt b c:=by
  unfold Qt
  simp only
  split
  · rename_i h;exact Int.mul_nonneg (by omega) (by omega)
  · split
    · rename_i h;exact Int.mul_nonneg (by omega) (by omega)
    · split
      · rename_i h;exact Int.mul_nonneg (by omega) (by omega)
      · exact Int.le_refl _
noncomputable def qb4 (l : List qd) : Int × Int:=if K2 l≠0 then (0,K2 l) else (Je l,0)
theorem qxu (N : Nat) (P : Int→Int→Int→Prop) : 0≤q94 N P:=by
  unfold q94
  have:=fun Q=>(qm5 N Q).1
  have h1:=this fun x y z=>P x y z∧¬ P (x + 1) y z
  have h2:=this fun x y z=>P x y z∧¬ P (x - 1) y z
  have h3:=this fun x y z=>P x y z∧¬ P x (y + 1) z
  have h4:=this fun x y z=>P x y z∧¬ P x (y - 1) z
  have h5:=this fun x y z=>P x y z∧¬ P x y (z + 1)
  have h6:=this fun x y z=>P x y z∧¬ P x y (z - 1)
  omega
theorem qkb {l : List qd} (h : K2 l = 0) : 0≤Je l∧Je l≤9600000000000000000 / 1000:=by
  obtain ⟨h1,h2,h3⟩:=Jh.1 h
  refine ⟨by rw [qxs h3 h2];exact qxu _ _,?_⟩
  have hp : ∀ n,0≤Z6 Qt l n:=by
    intro n
    induction n with
    | zero=>exact Int.le_refl _
    | succ n ih=>
      rw [Z6]
      have : ∀ (b : qd) (l : List qd),0≤sumL (fun c=>Qt b c) l:=fun b l=>by
        induction l with
        | nil=>exact Int.le_refl _
        | cons c l ih=>rw [sumL];have:=qmf b c;omega
      split
      · rename_i b _;have:=this b (l.take n);omega
      · omega
  have hf : ∀ l : List qd,(∀ b∈l,vB b)→sumL Yb l≤l.length * 24000000000000:=by
    intro l
    induction l with
    | nil=>intro _;exact Int.le_refl _
    | cons b l ih=>
      intro hv
      have i1:=ih fun c hc=>hv c (by simp [hc])
      have hb:=hv b (by simp)
      unfold vB at hb
      have p1:=(qdd (x:=b.Hi.X - b.Lo.X) (y:=b.Hi.Y - b.Lo.Y) (z:=0) (by omega) (by omega) (by omega)).1
      have p2:=(qdd (x:=b.Hi.X - b.Lo.X) (y:=b.Hi.Z - b.Lo.Z) (z:=0) (by omega) (by omega) (by omega)).1
      have p3:=(qdd (x:=b.Hi.Y - b.Lo.Y) (y:=b.Hi.Z - b.Lo.Z) (z:=0) (by omega) (by omega) (by omega)).1
      have : Yb b≤24000000000000:=by unfold Yb;omega
      rw [sumL,List.length_cons]
      omega
  have:=hf l h2
  have:=hp l.length
  unfold Je
  omega
theorem qws (l : List qd) : q8q l = some (qb4 l):=by
  unfold q8q qb4
  rw [qar,Option.bind_some]
  by_cases h : ¬ K2 l = 0
  · have : (K2 l != 0) = true:=by simpa using h
    rw [if_pos h,this,cond_true]
  replace h:=Classical.not_not.1 h
  obtain ⟨hl,hv,hc⟩:=Jh.1 h
  have:=qkb h
  rw [if_neg (by simp [h]),h,show ((0 : Int) != 0) = false from rfl,cond_false,qxx hl hv,qu (by omega)];rfl
def FB (f : qd) : Prop:=(f.Lo.X≤f.Hi.X∧f.Lo.Y≤f.Hi.Y∧f.Lo.Z≤f.Hi.Z)∧(-1000001≤f.Lo.X∧-1000001≤f.Lo.Y∧-1000001≤f.Lo.Z)∧f.Hi.X≤1000001∧f.Hi.Y≤1000001∧f.Hi.Z≤1000001
theorem qqp {x y z : Int} (hx : 0≤x∧x≤2000002) (hy : 0≤y∧y≤2000002) (hz : 0≤z∧z≤2000002) : (0≤x * y∧x * y≤4000008000004)∧0≤x * y * z∧x * y * z≤9000000000000000000:=by
  have h1 : 0≤x * y:=Int.mul_nonneg hx.1 hy.1
  have h2 : x * y≤2000002 * 2000002:=Int.mul_le_mul hx.2 hy.2 hy.1 (by omega)
  have h3 : 0≤x * y * z:=Int.mul_nonneg h1 hz.1
  have h4 : x * y * z≤4000008000004 * 2000002:=Int.mul_le_mul (by omega) hz.2 hz.1 (by omega)
  omega
theorem q40 {f : qd} (h : FB f) : Uq f = some (volB f):=by
  unfold FB at h
  unfold Uq volB
  rw [qu (x:=f.Hi.X - f.Lo.X) (by omega),qu (x:=f.Hi.Y - f.Lo.Y) (by omega),qu (x:=f.Hi.Z - f.Lo.Z) (by omega)]
  have:=qqp (x:=f.Hi.X - f.Lo.X) (y:=f.Hi.Y - f.Lo.Y) (z:=f.Hi.Z - f.Lo.Z) (by omega) (by omega) (by omega)
  rw [qu (x:=(f.Hi.X - f.Lo.X) * (f.Hi.Y - f.Lo.Y)) (by omega),qu (by omega)]
def comV (f c : qd) : Int:=ov f.Lo.X f.Hi.X c.Lo.X c.Hi.X * ov f.Lo.Y f.Hi.Y c.Lo.Y c.Hi.Y * ov f.Lo.Z f.Hi.Z c.Lo.Z c.Hi.Z
theorem qma {f c : qd} (hf : FB f) (hc : vB c) : ∃ d,q4u f c = some d∧Uq d = some (comV f c):=by
  unfold q4u
  unfold FB at hf
  unfold vB at hc
  by_cases h1 : max f.Lo.X c.Lo.X ≥ min f.Hi.X c.Hi.X
  · refine ⟨J2,?_,?_⟩
    · rw [decide_eq_true h1];rfl
    · have : ov f.Lo.X f.Hi.X c.Lo.X c.Hi.X = 0:=by unfold ov;omega
      rw [q40 (by unfold FB J2;simp),comV,this];simp [volB,J2]
  · by_cases h2 : max f.Lo.Y c.Lo.Y ≥ min f.Hi.Y c.Hi.Y
    · refine ⟨J2,?_,?_⟩
      · rw [decide_eq_false h1,decide_eq_true h2];rfl
      · have : ov f.Lo.Y f.Hi.Y c.Lo.Y c.Hi.Y = 0:=by unfold ov;omega
        rw [q40 (by unfold FB J2;simp),comV,this];simp [volB,J2]
    · by_cases h3 : max f.Lo.Z c.Lo.Z ≥ min f.Hi.Z c.Hi.Z
      · refine ⟨J2,?_,?_⟩
        · rw [decide_eq_false h1,decide_eq_false h2,decide_eq_true h3];rfl
        · have : ov f.Lo.Z f.Hi.Z c.Lo.Z c.Hi.Z = 0:=by unfold ov;omega
          rw [q40 (by unfold FB J2;simp),comV,this];simp [volB,J2]
      · refine ⟨({Lo:=({X:=max f.Lo.X c.Lo.X,Y:=max f.Lo.Y c.Lo.Y,Z:=max f.Lo.Z c.Lo.Z} : ql),Hi:=({X:=min f.Hi.X c.Hi.X,Y:=min f.Hi.Y c.Hi.Y,Z:=min f.Hi.Z c.Hi.Z} : ql)} : qd),?_,?_⟩
        · rw [decide_eq_false h1,decide_eq_false h2,decide_eq_false h3];rfl
        · rw [q40 (by unfold FB;simp only;omega)]
          unfold volB comV
          have e1 : ov f.Lo.X f.Hi.X c.Lo.X c.Hi.X = min f.Hi.X c.Hi.X - max f.Lo.X c.Lo.X:=by unfold ov;omega
          have e2 : ov f.Lo.Y f.Hi.Y c.Lo.Y c.Hi.Y = min f.Hi.Y c.Hi.Y - max f.Lo.Y c.Lo.Y:=by unfold ov;omega
          have e3 : ov f.Lo.Z f.Hi.Z c.Lo.Z c.Hi.Z = min f.Hi.Z c.Hi.Z - max f.Lo.Z c.Lo.Z:=by unfold ov;omega
          rw [e1,e2,e3]
def outV (l : List qd) (f : qd) : Int:=volB f - sumL (comV f) l
theorem qi4 {l : List qd} (hl : l.length≤400) (hv : ∀ c∈l,vB c) {f : qd} (hf : FB f) (n m : Int) (hn : n = w64 m) :
    loop (Ur l (f.Lo.X,f.Lo.Y,f.Lo.Z,f.Hi.X,f.Hi.Y,f.Hi.Z)) (n,0) = some (w64 (m - sumL (comV f) l)):=by
  rw [qga l (by omega) (fun n c=>w64 (n + (-1) * (if vB c then comV f c else 0))) (fun n=>n) (Ur l (f.Lo.X,f.Lo.Y,f.Lo.Z,f.Hi.X,f.Hi.Y,f.Hi.Z)) (fun k hk s=>by
    have hc:=hv _ (List.getElem_mem hk)
    obtain ⟨d,d1,d2⟩:=qma hf hc
    have d1 : q4u ({Lo:=({X:=f.Lo.X,Y:=f.Lo.Y,Z:=f.Lo.Z} : ql),Hi:=({X:=f.Hi.X,Y:=f.Hi.Y,Z:=f.Hi.Z} : ql)} : qd) l[k] = some d:=d1
    simp only [Ur,dlt hk,cond_true,Qf hk,Option.bind_some,d1,d2,w64s hk (by omega : l.length≤1000000),if_pos hc]
    have : s - comV f l[k] = s + -1 * comV f l[k]:=by omega
    rw [this]) (fun s=>by simp only [Ur,dnl,cond_false]) n]
  rw [qc7 (fun c=>-1 * (if vB c then comV f c else 0)) l n m hn,q93,Zm (g:=comV f) fun c hc=>by rw [if_pos (hv c hc)]]
  congr 2
  omega
theorem qda {l : List qd} (hl : l.length≤400) (hv : ∀ c∈l,vB c) {b f g : qd} {a : Int} (hf : FB f) (hg : FB g)
    (h0 : ∀ n,Z8 a b l (n,0) = ((Uq f).bind fun r=>(loop (Ur l (f.Lo.X,f.Lo.Y,f.Lo.Z,f.Hi.X,f.Hi.Y,f.Hi.Z)) (w64 (n + r),0)).bind fun x0=>some (.inl (x0,1))))
    (h1 : ∀ n,Z8 a b l (n,1) = ((Uq g).bind fun r=>(loop (Ur l (g.Lo.X,g.Lo.Y,g.Lo.Z,g.Hi.X,g.Hi.Y,g.Hi.Z)) (w64 (n + r),0)).bind fun x0=>some (.inl (x0,2)))) :
    q1n l b a = some (w64 (outV l f + outV l g)):=by
  unfold q1n
  have e0 : Z8 a b l (0,0) = some (.inl (w64 (outV l f),1)):=by
    rw [h0,q40 hf,Option.bind_some,qi4 hl hv hf _ (0 + volB f) rfl]
    simp [outV]
  have e1 : Z8 a b l (w64 (outV l f),1) = some (.inl (w64 (outV l f + outV l g),2)):=by
    rw [h1,q40 hg,Option.bind_some,qi4 hl hv hg _ (outV l f + volB g) (qb8 _ _)]
    simp only [Option.bind_some]
    congr 4
    unfold outV;omega
  have e2 : Z8 a b l (w64 (outV l f + outV l g),2) = some (.inr (w64 (outV l f + outV l g))):=rfl
  rw [K8 e0,K8 e1,Qw e2];rfl
def fX1 (b : qd) : qd:={Lo:=({X:=b.Hi.X,Y:=b.Lo.Y,Z:=b.Lo.Z} : ql),Hi:=({X:=b.Hi.X + 1,Y:=b.Hi.Y,Z:=b.Hi.Z} : ql)}
def fX0 (b : qd) : qd:={Lo:=({X:=b.Lo.X - 1,Y:=b.Lo.Y,Z:=b.Lo.Z} : ql),Hi:=({X:=b.Lo.X,Y:=b.Hi.Y,Z:=b.Hi.Z} : ql)}
def fY1 (b : qd) : qd:={Lo:=({X:=b.Lo.X,Y:=b.Hi.Y,Z:=b.Lo.Z} : ql),Hi:=({X:=b.Hi.X,Y:=b.Hi.Y + 1,Z:=b.Hi.Z} : ql)}
def fY0 (b : qd) : qd:={Lo:=({X:=b.Lo.X,Y:=b.Lo.Y - 1,Z:=b.Lo.Z} : ql),Hi:=({X:=b.Hi.X,Y:=b.Lo.Y,Z:=b.Hi.Z} : ql)}
def fZ1 (b : qd) : qd:={Lo:=({X:=b.Lo.X,Y:=b.Lo.Y,Z:=b.Hi.Z} : ql),Hi:=({X:=b.Hi.X,Y:=b.Hi.Y,Z:=b.Hi.Z + 1} : ql)}
def fZ0 (b : qd) : qd:={Lo:=({X:=b.Lo.X,Y:=b.Lo.Y,Z:=b.Lo.Z - 1} : ql),Hi:=({X:=b.Hi.X,Y:=b.Hi.Y,Z:=b.Lo.Z} : ql)}
theorem qqa {l : List qd} (hl : l.length≤400) (hv : ∀ c∈l,vB c) {b : qd} (hb : vB b) : q1n l b 0 = some (w64 (outV l (fX1 b) + outV l (fX0 b))):=by
  unfold vB at hb
  have w1 : w64 (b.Hi.X + 1) = b.Hi.X + 1:=qu (by omega)
  have w2 : w64 (b.Lo.X - 1) = b.Lo.X - 1:=qu (by omega)
  refine qda hl hv (by unfold FB fX1;simp only;omega) (by unfold FB fX0;simp only;omega) (fun n=>?_) (fun n=>?_)
  · unfold Z8;simp only [show decide ((0 : Int) < 2) = true from rfl,show ((0 : Int) == 0) = true from rfl,cond_true,Option.bind_some,w1,Option.bind_assoc];rfl
  · unfold Z8;simp only [show decide ((1 : Int) < 2) = true from rfl,show ((0 : Int) == 0) = true from rfl,show ((1 : Int) == 0) = false from rfl,cond_true,cond_false,Option.bind_some,w2,Option.bind_assoc];rfl
theorem qqb {l : List qd} (hl : l.length≤400) (hv : ∀ c∈l,vB c) {b : qd} (hb : vB b) : q1n l b 1 = some (w64 (outV l (fY1 b) + outV l (fY0 b))):=by
  unfold vB at hb
  have w1 : w64 (b.Hi.Y + 1) = b.Hi.Y + 1:=qu (by omega)
  have w2 : w64 (b.Lo.Y - 1) = b.Lo.Y - 1:=qu (by omega)
  refine qda hl hv (by unfold FB fY1;simp only;omega) (by unfold FB fY0;simp only;omega) (fun n=>?_) (fun n=>?_)
  · unfold Z8;simp only [show decide ((0 : Int) < 2) = true from rfl,show ((0 : Int) == 0) = true from rfl,show ((1 : Int) == 0) = false from rfl,show ((1 : Int) == 1) = true from rfl,cond_true,cond_false,Option.bind_some,w1,Option.bind_assoc];rfl
  · unfold Z8;simp only [show decide ((1 : Int) < 2) = true from rfl,show ((1 : Int) == 0) = false from rfl,show ((1 : Int) == 1) = true from rfl,cond_true,cond_false,Option.bind_some,w2,Option.bind_assoc];rfl
theorem qqc {l : List qd} (hl : l.length≤400) (hv : ∀ c∈l,vB c) {b : qd} (hb : vB b) : q1n l b 2 = some (w64 (outV l (fZ1 b) + outV l (fZ0 b))):=by
  unfold vB at hb
  have w1 : w64 (b.Hi.Z + 1) = b.Hi.Z + 1:=qu (by omega)
  have w2 : w64 (b.Lo.Z - 1) = b.Lo.Z - 1:=qu (by omega)
  refine qda hl hv (by unfold FB fZ1;simp only;omega) (by unfold FB fZ0;simp only;omega) (fun n=>?_) (fun n=>?_)
  · unfold Z8;simp only [show decide ((0 : Int) < 2) = true from rfl,show ((0 : Int) == 0) = true from rfl,show ((2 : Int) == 0) = false from rfl,show ((2 : Int) == 1) = false from rfl,cond_true,cond_false,Option.bind_some,w1,Option.bind_assoc];rfl
  · unfold Z8;simp only [show decide ((1 : Int) < 2) = true from rfl,show ((1 : Int) == 0) = false from rfl,show ((2 : Int) == 0) = false from rfl,show ((2 : Int) == 1) = false from rfl,cond_true,cond_false,Option.bind_some,w2,Option.bind_assoc];rfl
def out6 (l : List qd) (b : qd) : Int:=(outV l (fX1 b) + outV l (fX0 b)) + (outV l (fY1 b) + outV l (fY0 b)) + (outV l (fZ1 b) + outV l (fZ0 b))
theorem qxy {l : List qd} (hl : l.length≤400) (hv : ∀ c∈l,vB c) : loop (q33 l) (0,0) = some (w64 (sumL (out6 l) l)):=by
  have key:=Yu (f:=q33 l) (fun k=>(w64 (sumL (out6 l) (l.take k)),(k : Int))) l.length (w64 (sumL (out6 l) l)) (fun k hk=>by
    have hb:=hv _ (List.getElem_mem hk)
    have i0:=qqa hl hv hb
    have i1:=qqb hl hv hb
    have i2:=qqc hl hv hb
    have s0 : ∀ n,Jz l (n,(k : Int)) (n,0) = some (.inl (w64 (n + w64 (outV l (fX1 l[k]) + outV l (fX0 l[k]))),1)):=fun n=>by
      unfold Jz;simp only [show decide ((0 : Int) < 3) = true from rfl,cond_true,Qf hk,Option.bind_some,i0];rfl
    have s1 : ∀ n n',Jz l (n,(k : Int)) (n',1) = some (.inl (w64 (n' + w64 (outV l (fY1 l[k]) + outV l (fY0 l[k]))),2)):=fun n n'=>by
      unfold Jz;simp only [show decide ((1 : Int) < 3) = true from rfl,cond_true,Qf hk,Option.bind_some,i1];rfl
    have s2 : ∀ n n',Jz l (n,(k : Int)) (n',2) = some (.inl (w64 (n' + w64 (outV l (fZ1 l[k]) + outV l (fZ0 l[k]))),3)):=fun n n'=>by
      unfold Jz;simp only [show decide ((2 : Int) < 3) = true from rfl,cond_true,Qf hk,Option.bind_some,i2];rfl
    have s3 : ∀ n n',Jz l (n,(k : Int)) (n',3) = some (.inr n'):=fun n n'=>rfl
    simp only [q33,dlt hk,cond_true,w64s hk (by omega : l.length≤1000000)]
    rw [K8 (s0 _),K8 (s1 _ _),K8 (s2 _ _),Qw (s3 _ _)]
    simp only [Option.bind_some]
    congr 3
    rw [List.take_succ_eq_append_getElem hk,q68]
    simp only [sumL,Int.add_zero,qy9,qb8]
    congr 1
    unfold out6;omega) (by simp only [q33,dnl,cond_false,List.take_length]) (Nat.zero_le _)
  have h0 : (w64 (sumL (out6 l) (l.take 0)),((0 : Nat) : Int)) = ((0 : Int),(0 : Int)):=by
    simp [sumL]
    exact qu (by omega)
  rw [h0] at key
  exact key
def com6 (b c : qd) : Int:=(comV (fX1 b) c + comV (fX0 b) c) + (comV (fY1 b) c + comV (fY0 b) c) + (comV (fZ1 b) c + comV (fZ0 b) c)
theorem qq6 (l : List qd) (b : qd) : out6 l b = Yb b - sumL (com6 b) l:=by
  have e : sumL (com6 b) l = (sumL (comV (fX1 b)) l + sumL (comV (fX0 b)) l) + (sumL (comV (fY1 b)) l + sumL (comV (fY0 b)) l) + (sumL (comV (fZ1 b)) l + sumL (comV (fZ0 b)) l):=by
    unfold com6;simp only [qaz]
  rw [e]
  unfold out6 outV
  have v1 : volB (fX1 b) = (b.Hi.Y - b.Lo.Y) * (b.Hi.Z - b.Lo.Z):=by unfold volB fX1;simp only;rw [show b.Hi.X + 1 - b.Hi.X = 1 by omega,Int.one_mul]
  have v2 : volB (fX0 b) = (b.Hi.Y - b.Lo.Y) * (b.Hi.Z - b.Lo.Z):=by unfold volB fX0;simp only;rw [show b.Lo.X - (b.Lo.X - 1) = 1 by omega,Int.one_mul]
  have v3 : volB (fY1 b) = (b.Hi.X - b.Lo.X) * (b.Hi.Z - b.Lo.Z):=by unfold volB fY1;simp only;rw [show b.Hi.Y + 1 - b.Hi.Y = 1 by omega,Int.mul_one]
  have v4 : volB (fY0 b) = (b.Hi.X - b.Lo.X) * (b.Hi.Z - b.Lo.Z):=by unfold volB fY0;simp only;rw [show b.Lo.Y - (b.Lo.Y - 1) = 1 by omega,Int.mul_one]
  have v5 : volB (fZ1 b) = (b.Hi.X - b.Lo.X) * (b.Hi.Y - b.Lo.Y):=by unfold volB fZ1;simp only;rw [show b.Hi.Z + 1 - b.Hi.Z = 1 by omega,Int.mul_one]
  have v6 : volB (fZ0 b) = (b.Hi.X - b.Lo.X) * (b.Hi.Y - b.Lo.Y):=by unfold volB fZ0;simp only;rw [show b.Lo.Z - (b.Lo.Z - 1) = 1 by omega,Int.mul_one]
  rw [v1,v2,v3,v4,v5,v6]
  unfold Yb
  omega
theorem ov3f {a0 a1 b0 b1 : Int} (ha : a0 < a1) (hb : b0 < b1) :
    (min a1 b1 - max a0 b0 < 0∧ov a0 a1 b0 b1 = 0∧ov a1 (a1 + 1) b0 b1 + ov (a0 - 1) a0 b0 b1 = 0)∨
    (min a1 b1 - max a0 b0 = 0∧ov a0 a1 b0 b1 = 0∧ov a1 (a1 + 1) b0 b1 + ov (a0 - 1) a0 b0 b1 = 1)∨
    (min a1 b1 - max a0 b0 > 0∧ov a0 a1 b0 b1 = min a1 b1 - max a0 b0):=by
  unfold ov;omega
theorem key3 {X0 X1 Y0 Y1 Z0 Z1 x y z : Int} (hx : (x < 0∧X0 = 0∧X1 = 0)∨(x = 0∧X0 = 0∧X1 = 1)∨(x > 0∧X0 = x)) (hy : (y < 0∧Y0 = 0∧Y1 = 0)∨(y = 0∧Y0 = 0∧Y1 = 1)∨(y > 0∧Y0 = y))
    (hz : (z < 0∧Z0 = 0∧Z1 = 0)∨(z = 0∧Z0 = 0∧Z1 = 1)∨(z > 0∧Z0 = z)) (hn : ¬ (x > 0∧y > 0∧z > 0)) :
    X1 * (Y0 * Z0) + X0 * (Y1 * Z0) + X0 * (Y0 * Z1) = if x = 0∧y > 0∧z > 0 then y * z else if x > 0∧y = 0∧z > 0 then x * z else if x > 0∧y > 0∧z = 0 then x * y else 0:=by
  rcases hx with ⟨hx,rfl,rfl⟩ | ⟨rfl,rfl,rfl⟩ | ⟨hx,rfl⟩ <;> rcases hy with ⟨hy,rfl,rfl⟩ | ⟨rfl,rfl,rfl⟩ | ⟨hy,rfl⟩ <;> rcases hz with ⟨hz,rfl,rfl⟩ | ⟨rfl,rfl,rfl⟩ | ⟨hz,rfl⟩ <;>
    first
      | (exfalso;omega)
      | (simp only [Int.zero_mul,Int.mul_zero,Int.add_zero,Int.zero_add,Int.one_mul,Int.mul_one];(repeat' split) <;> first | omega | (simp_all;done) | (simp_all;omega))
theorem qfh (b c : qd) : com6 b c = (ov b.Hi.X (b.Hi.X + 1) c.Lo.X c.Hi.X + ov (b.Lo.X - 1) b.Lo.X c.Lo.X c.Hi.X) * (ov b.Lo.Y b.Hi.Y c.Lo.Y c.Hi.Y * ov b.Lo.Z b.Hi.Z c.Lo.Z c.Hi.Z) +
    ov b.Lo.X b.Hi.X c.Lo.X c.Hi.X * ((ov b.Hi.Y (b.Hi.Y + 1) c.Lo.Y c.Hi.Y + ov (b.Lo.Y - 1) b.Lo.Y c.Lo.Y c.Hi.Y) * ov b.Lo.Z b.Hi.Z c.Lo.Z c.Hi.Z) +
    ov b.Lo.X b.Hi.X c.Lo.X c.Hi.X * (ov b.Lo.Y b.Hi.Y c.Lo.Y c.Hi.Y * (ov b.Hi.Z (b.Hi.Z + 1) c.Lo.Z c.Hi.Z + ov (b.Lo.Z - 1) b.Lo.Z c.Lo.Z c.Hi.Z)):=by
  unfold com6 comV fX1 fX0 fY1 fY0 fZ1 fZ0
  simp only [Int.add_mul,Int.mul_add,Int.mul_assoc]
theorem qfg {b c : qd} (hb : ltB b) (hc : ltB c) (hd : ∀ x y z,¬ (inB b x y z∧inB c x y z)) : com6 b c = Qt b c:=by
  obtain ⟨b1,b2,b3⟩:=hb
  obtain ⟨c1,c2,c3⟩:=hc
  have hdis : ¬ (min b.Hi.X c.Hi.X - max b.Lo.X c.Lo.X > 0∧min b.Hi.Y c.Hi.Y - max b.Lo.Y c.Lo.Y > 0∧min b.Hi.Z c.Hi.Z - max b.Lo.Z c.Lo.Z > 0):=fun ⟨h1,h2,h3⟩=>
    hd (max b.Lo.X c.Lo.X) (max b.Lo.Y c.Lo.Y) (max b.Lo.Z c.Lo.Z) (by unfold inB;omega)
  rw [qfh]
  unfold Qt
  exact key3 (ov3f b1 c1) (ov3f b2 c2) (ov3f b3 c3) hdis
theorem qm9 {b : qd} (hb : ltB b) : com6 b b = Qt b b:=by
  obtain ⟨b1,b2,b3⟩:=hb
  have o : ∀ {a c : Int},a < c→ov c (c + 1) a c = 0∧ov (a - 1) a a c = 0:=fun h=>by unfold ov;omega
  rw [qfh,(o b1).1,(o b1).2,(o b2).1,(o b2).2,(o b3).1,(o b3).2]
  unfold Qt
  simp only
  rw [if_neg (by omega),if_neg (by omega),if_neg (by omega)]
  simp
theorem qxw {l : List qd} (hc : CanB l) (hv : ∀ b∈l,vB b) : sumL (out6 l) l = Je l:=by
  have hd:=qfd hc.cnt
  rw [Zm (g:=fun b=>Yb b - sumL (com6 b) l) fun b _=>qq6 l b,qb0]
  have h1:=qe3 com6 Qt (l:=l) (List.Pairwise.imp_of_mem (fun {b c} hb hcm hdis=>⟨qfg (q3t (hv b hb)).1 (q3t (hv c hcm)).1 hdis,qfg (q3t (hv c hcm)).1 (q3t (hv b hb)).1 fun x y z hh=>hdis x y z ⟨hh.2,hh.1⟩⟩) hd) l.length (Nat.le_refl _)
  have h2:=qdc Qt qfk l l.length (Nat.le_refl _)
  rw [List.take_length] at h1 h2
  simp only [qb0] at h1
  have h3 : sumL (fun b=>com6 b b) l = sumL (fun b=>Qt b b) l:=Zm fun b hb=>qm9 (q3t (hv b hb)).1
  have h4 : sumL (fun b=>sumL (com6 b) l) l - sumL (fun b=>sumL (fun c=>Qt b c) l) l = sumL (fun b=>com6 b b) l - sumL (fun b=>Qt b b) l:=h1
  have h5 : sumL (fun b=>Qt b b) l = 0:=by
    rw [Zm (g:=fun _=>0) fun b hb=>?_,qe4]
    have:=(q3t (hv b hb)).1
    unfold ltB at this
    unfold Qt
    simp only
    rw [if_neg (by omega),if_neg (by omega),if_neg (by omega)]
  unfold Je
  omega
theorem qrl (l : List qd) : q7g l = some (qb4 l):=by
  unfold q7g qb4
  simp only [qad,Option.bind_some]
  by_cases h : ¬ K2 l = 0
  · have : (K2 l != 0) = true:=by simpa using h
    rw [if_pos h,this,cond_true]
  replace h:=Classical.not_not.1 h
  obtain ⟨hl,hv,hc⟩:=Jh.1 h
  have:=qkb h
  rw [if_neg (by simp [h]),h,show ((0 : Int) != 0) = false from rfl,cond_false,qxy hl hv,qxw hc hv,qu (by omega)];rfl
theorem qql (l : List qd) (f : Qx) : (place l f).1.length≤400:=by
  unfold place
  split
  · simp
  · split
    · simp
    · split
      · exact qot _
      · simp
theorem qtg (l : List qd) (z : Int) : (q37 l z).1.length≤400:=by
  unfold q37
  split
  · simp
  · rename_i h
    have:=(Jh.1 (Classical.not_not.1 h)).1
    have:=Zu l z
    simp only;omega
theorem qyx (l : List qd) (f : Qx) (z : Int) (hf : 0≤f.Turn) : q9y l f z = some true:=by
  unfold q9y
  simp only [qr9,Option.bind_some]
  by_cases h1 : (30 < l.length∧l.length≤400)∨420 < l.length
  · simp only [decide_eq_true h1,cond_true]
  · have hp:=qql l f
    have hs:=qtg l z
    simp only [decide_eq_false h1,cond_false,qwj,qrb,qwq,qrj,qws,qrl,qwo l f hf,qrg l f hf,Option.bind_some,beq_self_eq_true,Bool.and_self,cond_true,
      qdr _ _ (by omega : (q37 l z).1.length≤1000000),sameBox _ _ (by omega : (place l f).1.length≤1000000),decide_true]
end Go.Sh
