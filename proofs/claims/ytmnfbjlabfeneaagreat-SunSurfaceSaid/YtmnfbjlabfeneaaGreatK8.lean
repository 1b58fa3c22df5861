/- PX -/
import Derived.Test.YtmnfbjlabfeneaaGreatK7
namespace Go.Sh
open Go Go.Am
structure qh where
  X : Int
  Y : Int
  Z : Int
  deriving DecidableEq
structure qf where
  Lo : qh
  Hi : qh
  deriving DecidableEq
def Q6 (x : qf) : List DV:=[.int .i64 x.Lo.X,.int .i64 x.Lo.Y,.int .i64 x.Lo.Z,.int .i64 x.Hi.X,.int .i64 x.Hi.Y,.int .i64 x.Hi.Z]
noncomputable def q1d (a : qh) (b : Int) : Option Bool:=
  (cond (decide (a.X ≥ (w64 (0 - b)))) (some (decide (a.X≤b))) (some false)).bind fun c=>(cond c (some (decide (a.Y ≥ (w64 (0 - b))))) (some false)).bind fun d=>(cond d (some (decide (a.Y≤b))) (some false)).bind fun f=>(cond f (some (decide (a.Z ≥ (w64 (0 - b))))) (some false)).bind fun g=>(cond g (some (decide (a.Z≤b))) (some false)).bind fun h=>some h
noncomputable def q73 (b : List qf) (a : Int) : Option ((Int) ⊕ ((Unit) ⊕ (Bool))):=
  cond (decide (a < (b.length : Int))) ((idx b a).bind fun c=>(q1d c.Lo 9).bind fun d=>(cond (!d) (some true) ((idx b a).bind fun f=>(q1d f.Hi 9).bind fun g=>some (!g))).bind fun h=>cond h (some (.inr (.inr false))) (some (.inl (w64 (a + 1))))) (some (.inr (.inl ())))
noncomputable def q9z (a : List qf) : Option Bool:=
  cond (decide ((a.length : Int) > 400)) (some (decide ((a.length : Int)≤420))) ((loop (q73 a) 0 : Option ((Unit) ⊕ (Bool))).bind fun b=>(match b with | .inl _=>some (decide ((a.length : Int)≤6)) | .inr c=>some c))
noncomputable def Js (b : List qf) (c : qf→Option Bool) (a : Int) : Option ((Int) ⊕ ((Unit) ⊕ (Int))):=
  cond (decide (a < (b.length : Int))) ((idx b a).bind fun d=>(c d).bind fun f=>cond f (some (.inr (.inr a))) (some (.inl (w64 (a + 1))))) (some (.inr (.inl ())))
noncomputable def q7f (a : List qf) (b : qf→Option Bool) : Option Int:=
  (loop (Js a b) 0 : Option ((Unit) ⊕ (Int))).bind fun c=>(match c with | .inl _=>some (-1) | .inr d=>some d)
noncomputable def Um (a : List qf) (b : qf→Option Bool) : Option Bool:=
  (q7f a b).bind fun c=>some (decide (c ≥ 0))
noncomputable def q8e (a : qh) : Option Bool:=
  (cond (decide ((min (min a.X a.Y) a.Z) ≥ (-1000000))) (some (decide ((max (max a.X a.Y) a.Z)≤1000000))) (some false)).bind fun b=>some b
noncomputable def q8f (a : qf) : Option Bool:=
  (cond (decide (a.Lo.X < a.Hi.X)) (some (decide (a.Lo.Y < a.Hi.Y))) (some false)).bind fun b=>(cond b (some (decide (a.Lo.Z < a.Hi.Z))) (some false)).bind fun c=>(cond c ((q8e a.Lo).bind fun d=>some d) (some false)).bind fun f=>(cond f ((q8e a.Hi).bind fun g=>some g) (some false)).bind fun h=>some h
noncomputable def q3n (a : qf) : Option Bool:=
  (q8f a).bind fun b=>some (!b)
def Yp (x : List qf) : List DV:=[.sl 6 (x.map Q6)]
def qec : ByteArray:=⟨#[0,1,2,2,3,3,3,3,4,4,4,4,4,4,4,4,5,5,5,5,5,5,5,5,5,5,5,5,5,5,5,5,6,6,6,6,6,6,6,6,6,6,6,6,6,6,6,6,6,6,6,6,6,6,6,6,6,6,6,6,6,6,6,6,7,7,7,7,7,7,7,7,7,7,7,7,7,7,7,7,7,7,7,7,7,7,7,7,7,7,7,7,7,7,7,7,7,7,7,7,7,7,7,7,7,7,7,7,7,7,7,7,7,7,7,7,7,7,7,7,7,7,7,7,7,7,7,7,8,8,8,8,8,8,8,8,8,8,8,8,8,8,8,8,8,8,8,8,8,8,8,8,8,8,8,8,8,8,8,8,8,8,8,8,8,8,8,8,8,8,8,8,8,8,8,8,8,8,8,8,8,8,8,8,8,8,8,8,8,8,8,8,8,8,8,8,8,8,8,8,8,8,8,8,8,8,8,8,8,8,8,8,8,8,8,8,8,8,8,8,8,8,8,8,8,8,8,8,8,8,8,8,8,8,8,8,8,8,8,8,8,8,8,8,8,8,8,8,8,8,8,8,8,8,8,8]⟩
noncomputable def q35 (c : Int) : Option Int:=
  (cond (decide (c ≥ 4294967296)) (some (Int.fdiv c (2 ^ 32),32)) (some (c,0))).bind fun a=>(cond (decide (a.1 ≥ 65536)) (some (Int.fdiv a.1 (2 ^ 16),w64 (a.2 + 16))) (some (a.1,a.2))).bind fun b=>(cond (decide (b.1 ≥ 256)) (some (Int.fdiv b.1 (2 ^ 8),w64 (b.2 + 8))) (some (b.1,b.2))).bind fun d=>(q5p qec (IntKind.wrap .u8 d.1)).bind fun f=>some (w64 (d.2 + (w64 f)))
noncomputable def q19 (a : Int) : Option Int:=
  (q35 a).bind fun b=>some b
noncomputable def q90 (a : Int) : Option Bool:=
  some (a != a)
noncomputable def Zc (a : Int) (b : Int) : Option Bool:=
  (q90 a).bind fun c=>(cond c ((q90 b).bind fun d=>some (!d)) (some false)).bind fun f=>(cond f (some true) (some (decide (a < b)))).bind fun g=>some g
noncomputable def q7p (c : Int) (a : Int × List Int) : Option ((Int × List Int) ⊕ (List Int)):=
  (cond (decide (a.1 > c)) ((idx a.2 a.1).bind fun d=>(idx a.2 (w64 (a.1 - 1))).bind fun f=>(Zc d f).bind fun g=>some g) (some false)).bind fun h=>cond h ((idx a.2 (w64 (a.1 - 1))).bind fun b=>(idx a.2 a.1).bind fun j=>(idx a.2 a.1).bind fun _=>(idx (a.2.set a.1.toNat b) (w64 (a.1 - 1))).bind fun _=>some (.inl (w64 (a.1 - 1),(a.2.set a.1.toNat b).set (w64 (a.1 - 1)).toNat j))) (some (.inr a.2))
noncomputable def q7o (b : Int) (c : Int) (a : Int × List Int) : Option ((Int × List Int) ⊕ (List Int)):=
  cond (decide (a.1 < b)) (((loop (q7p c) (a.1,a.2)).bind fun d=>some d).bind fun f=>some (.inl (w64 (a.1 + 1),f))) (some (.inr a.2))
noncomputable def q7n (b : List Int) (a : Int) (c : Int) : Option (List Int):=
  (loop (q7o c a) (w64 (a + 1),b)).bind fun d=>some d
noncomputable def q8b (d : Int) (b : Int) (a : Int × List Int) : Option ((Int × List Int) ⊕ (List Int)):=
  cond (decide ((w64 ((w64 (2 * a.1)) + 1)) ≥ d)) (some (.inr a.2)) ((cond (decide ((w64 ((w64 ((w64 (2 * a.1)) + 1)) + 1)) < d)) ((idx a.2 (w64 (b + (w64 ((w64 (2 * a.1)) + 1))))).bind fun g=>(idx a.2 (w64 ((w64 (b + (w64 ((w64 (2 * a.1)) + 1)))) + 1))).bind fun h=>(Zc g h).bind fun j=>some j) (some false)).bind fun k=>(cond k (some (w64 ((w64 ((w64 (2 * a.1)) + 1)) + 1))) (some (w64 ((w64 (2 * a.1)) + 1)))).bind fun c=>(idx a.2 (w64 (b + a.1))).bind fun l=>(idx a.2 (w64 (b + c))).bind fun m=>(Zc l m).bind fun n=>cond (!n) (some (.inr a.2)) ((idx a.2 (w64 (b + c))).bind fun f=>(idx a.2 (w64 (b + a.1))).bind fun o=>(idx a.2 (w64 (b + a.1))).bind fun _=>(idx (a.2.set (w64 (b + a.1)).toNat f) (w64 (b + c))).bind fun _=>some (.inl (c,(a.2.set (w64 (b + a.1)).toNat f).set (w64 (b + c)).toNat o))))
noncomputable def q5b (a : List Int) (b : Int) (c : Int) (d : Int) : Option (List Int):=
  (loop (q8b c d) (b,a)).bind fun f=>some f
noncomputable def q7l (d : Int) (b : Int) (a : Int × List Int) : Option ((Int × List Int) ⊕ (List Int)):=
  cond (decide (a.1 ≥ 0)) ((q5b a.2 a.1 (w64 (d - b)) b).bind fun c=>(K1 c.length a.2.length).bind fun _=>some (.inl (w64 (a.1 - 1),c))) (some (.inr a.2))
noncomputable def q7m (b : Int) (a : Int × List Int) : Option ((Int × List Int) ⊕ (List Int)):=
  cond (decide (a.1 ≥ 0)) ((idx a.2 (w64 (b + a.1))).bind fun c=>(idx a.2 b).bind fun d=>(idx a.2 b).bind fun _=>(idx (a.2.set b.toNat c) (w64 (b + a.1))).bind fun _=>(q5b ((a.2.set b.toNat c).set (w64 (b + a.1)).toNat d) 0 a.1 b).bind fun f=>(K1 f.length ((a.2.set b.toNat c).set (w64 (b + a.1)).toNat d).length).bind fun _=>some (.inl (w64 (a.1 - 1),f))) (some (.inr a.2))
noncomputable def q7k (c : List Int) (a : Int) (b : Int) : Option (List Int):=
  (loop (q7l b a) (w64 (Int.tdiv (w64 ((w64 (b - a)) - 1)) 2),c)).bind fun d=>(loop (q7m a) (w64 ((w64 (b - a)) - 1),d)).bind fun f=>some f
noncomputable def q3l (c : List Int) (a : Int) (b : Int) (d : Int) : Option (Int × Int × Int):=
  (idx c b).bind fun f=>(idx c a).bind fun g=>(Zc f g).bind fun h=>cond h (some (b,a,w64 (d + 1))) (some (a,b,d))
noncomputable def q55 (a : List Int) (f : Int) (g : Int) (h : Int) (j : Int) : Option (Int × Int):=
  (q3l a f g j).bind fun b=>(q3l a b.2.1 h b.2.2).bind fun c=>(q3l a b.1 c.1 c.2.2).bind fun d=>some (d.2.1,d.2.2)
noncomputable def q3k (c : List Int) (a : Int) (d : Int) : Option (Int × Int):=
  (q55 c (w64 (a - 1)) a (w64 (a + 1)) d).bind fun b=>some (b.1,b.2)
noncomputable def q7j (d : List Int) (a : Int) (b : Int) : Option (Int × Int):=
  (cond (decide ((w64 (b - a)) ≥ 8)) ((cond (decide ((w64 (b - a)) ≥ 50)) ((q3k d (w64 (a + (w64 ((w64 (Int.tdiv (w64 (b - a)) 4)) * 1)))) 0).bind fun g=>(q3k d (w64 (a + (w64 ((w64 (Int.tdiv (w64 (b - a)) 4)) * 2)))) g.2).bind fun h=>(q3k d (w64 (a + (w64 ((w64 (Int.tdiv (w64 (b - a)) 4)) * 3)))) h.2).bind fun j=>some (g.1,h.1,j.1,j.2)) (some (w64 (a + (w64 ((w64 (Int.tdiv (w64 (b - a)) 4)) * 1))),w64 (a + (w64 ((w64 (Int.tdiv (w64 (b - a)) 4)) * 2))),w64 (a + (w64 ((w64 (Int.tdiv (w64 (b - a)) 4)) * 3))),0))).bind fun f=>(q55 d f.1 f.2.1 f.2.2.1 f.2.2.2).bind fun k=>some (k.1,k.2)) (some (w64 (a + (w64 ((w64 (Int.tdiv (w64 (b - a)) 4)) * 2))),0))).bind fun c=>cond (c.2 == 0) (some (c.1,1)) (cond (c.2 == 12) (some (c.1,2)) (some (c.1,0)))
noncomputable def qb4 (a : Int × Int × List Int) : Option ((Int × Int × List Int) ⊕ (List Int)):=
  cond (decide (a.1 < a.2.1)) ((idx a.2.2 a.2.1).bind fun b=>(idx a.2.2 a.1).bind fun c=>(idx a.2.2 a.1).bind fun _=>(idx (a.2.2.set a.1.toNat b) a.2.1).bind fun _=>some (.inl (w64 (a.1 + 1),w64 (a.2.1 - 1),(a.2.2.set a.1.toNat b).set a.2.1.toNat c))) (some (.inr a.2.2))
noncomputable def q89 (a : List Int) (b : Int) (c : Int) : Option (List Int):=
  (loop qb4 (b,w64 (c - 1),a)).bind fun d=>some d
noncomputable def q7t (c : Int) (b : Int × Int × List Int) (a : Int) : Option ((Int) ⊕ (Int)):=
  (cond (decide (a < c)) ((idx b.2.2 a).bind fun d=>(idx b.2.2 (w64 (a - 1))).bind fun f=>(Zc d f).bind fun g=>some (!g)) (some false)).bind fun h=>cond h (some (.inl (w64 (a + 1)))) (some (.inr a))
noncomputable def qar (a : Int × List Int) : Option ((Int × List Int) ⊕ (List Int)):=
  cond (decide (a.1 ≥ 1)) ((idx a.2 a.1).bind fun c=>(idx a.2 (w64 (a.1 - 1))).bind fun d=>(Zc c d).bind fun f=>cond (!f) (some (.inr a.2)) ((idx a.2 (w64 (a.1 - 1))).bind fun b=>(idx a.2 a.1).bind fun g=>(idx a.2 a.1).bind fun _=>(idx (a.2.set a.1.toNat b) (w64 (a.1 - 1))).bind fun _=>some (.inl (w64 (a.1 - 1),(a.2.set a.1.toNat b).set (w64 (a.1 - 1)).toNat g)))) (some (.inr a.2))
noncomputable def q7u (d : Int) (b : Int) (a : Int × List Int) : Option ((Int × List Int) ⊕ (Int × List Int)):=
  cond (decide (a.1 < d)) ((idx a.2 a.1).bind fun f=>(idx a.2 (w64 (a.1 - 1))).bind fun g=>(Zc f g).bind fun h=>cond (!h) (some (.inr (b,a.2))) ((idx a.2 (w64 (a.1 - 1))).bind fun c=>(idx a.2 a.1).bind fun j=>(idx a.2 a.1).bind fun _=>(idx (a.2.set a.1.toNat c) (w64 (a.1 - 1))).bind fun _=>some (.inl (w64 (a.1 + 1),(a.2.set a.1.toNat c).set (w64 (a.1 - 1)).toNat j)))) (some (.inr (b,a.2)))
noncomputable def q58 (c : Int) (g : Int) (b : Int × Int × List Int) : Option ((Int × Int × List Int) ⊕ ((List Int) ⊕ (Bool × List Int))):=
  cond (decide (b.2.1 < 5)) (((loop (q7t c b) b.1).bind fun a=>cond (a == c) (some (.inr (true,b.2.2))) (cond (decide ((w64 (c - g)) < 50)) (some (.inr (false,b.2.2))) ((idx b.2.2 (w64 (a - 1))).bind fun d=>(idx b.2.2 a).bind fun h=>(idx b.2.2 a).bind fun _=>(idx (b.2.2.set a.toNat d) (w64 (a - 1))).bind fun _=>(cond (decide ((w64 (a - g)) ≥ 2)) ((loop qar (w64 (a - 1),(b.2.2.set a.toNat d).set (w64 (a - 1)).toNat h)).bind fun f=>some f) (some ((b.2.2.set a.toNat d).set (w64 (a - 1)).toNat h))).bind fun j=>cond (decide ((w64 (c - a)) ≥ 2)) ((loop (q7u c a) (w64 (a + 1),j)).bind fun f=>some (.inl f)) (some (.inl (a,j))))) : Option ((Int × List Int) ⊕ (Bool × List Int))).bind fun l=>(match l with | .inl k=>some (.inl (k.1,w64 (b.2.1 + 1),k.2)) | .inr m=>some (.inr (.inr m)))) (some (.inr (.inl b.2.2)))
noncomputable def q57 (b : List Int) (a : Int) (c : Int) : Option (Bool × List Int):=
  (loop (q58 c a) (w64 (a + 1),0,b) : Option ((List Int) ⊕ (Bool × List Int))).bind fun d=>(match d with | .inl f=>some (false,f) | .inr g=>some g)
noncomputable def q7x (b : Int × Int × List Int) (c : Int) (a : Int) : Option ((Int) ⊕ (Int)):=
  (cond (decide (a≤b.2.1)) ((idx b.2.2 c).bind fun d=>(idx b.2.2 a).bind fun f=>(Zc d f).bind fun g=>some (!g)) (some false)).bind fun h=>cond h (some (.inl (w64 (a + 1)))) (some (.inr a))
noncomputable def q7y (c : Int) (b : Int × Int × List Int) (d : Int) (a : Int) : Option ((Int) ⊕ (Int)):=
  (cond (decide (c≤a)) ((idx b.2.2 d).bind fun f=>(idx b.2.2 a).bind fun g=>(Zc f g).bind fun h=>some h) (some false)).bind fun j=>cond j (some (.inl (w64 (a - 1)))) (some (.inr a))
noncomputable def q7w (d : Int) (a : Int × Int × List Int) : Option ((Int × Int × List Int) ⊕ (Int × List Int)):=
  (loop (q7x a d) a.1).bind fun b=>(loop (q7y b a d) a.2.1).bind fun c=>cond (decide (b > c)) (some (.inr (b,a.2.2))) ((idx a.2.2 c).bind fun f=>(idx a.2.2 b).bind fun g=>(idx a.2.2 b).bind fun _=>(idx (a.2.2.set b.toNat f) c).bind fun _=>some (.inl (w64 (b + 1),w64 (c - 1),(a.2.2.set b.toNat f).set c.toNat g)))
noncomputable def q7v (b : List Int) (a : Int) (g : Int) (c : Int) : Option (Int × List Int):=
  (idx b c).bind fun d=>(idx b a).bind fun h=>(idx b a).bind fun _=>(idx (b.set a.toNat d) c).bind fun _=>(loop (q7w a) (w64 (a + 1),w64 (g - 1),(b.set a.toNat d).set c.toNat h)).bind fun f=>some (f.1,f.2)
noncomputable def q80 (h : Int) (c : List Int) (b : Int) (d : Int) (f : Int) (g : Int) (a : Int) : Option ((Int) ⊕ (Int)):=
  (cond (decide (a≤(w64 (h - 1)))) ((idx ((c.set b.toNat d).set f.toNat g) a).bind fun j=>(idx ((c.set b.toNat d).set f.toNat g) b).bind fun k=>(Zc j k).bind fun l=>some l) (some false)).bind fun m=>cond m (some (.inl (w64 (a + 1)))) (some (.inr a))
noncomputable def q81 (h : Int) (c : List Int) (b : Int) (d : Int) (f : Int) (g : Int) (a : Int) : Option ((Int) ⊕ (Int)):=
  (cond (decide (h≤a)) ((idx ((c.set b.toNat d).set f.toNat g) a).bind fun j=>(idx ((c.set b.toNat d).set f.toNat g) b).bind fun k=>(Zc j k).bind fun l=>some (!l)) (some false)).bind fun m=>cond m (some (.inl (w64 (a - 1)))) (some (.inr a))
noncomputable def q83 (b : Int × Int × List Int) (c : Int) (a : Int) : Option ((Int) ⊕ (Int)):=
  (cond (decide (a≤b.2.1)) ((idx b.2.2 a).bind fun d=>(idx b.2.2 c).bind fun f=>(Zc d f).bind fun g=>some g) (some false)).bind fun h=>cond h (some (.inl (w64 (a + 1)))) (some (.inr a))
noncomputable def q84 (c : Int) (b : Int × Int × List Int) (d : Int) (a : Int) : Option ((Int) ⊕ (Int)):=
  (cond (decide (c≤a)) ((idx b.2.2 a).bind fun f=>(idx b.2.2 d).bind fun g=>(Zc f g).bind fun h=>some (!h)) (some false)).bind fun j=>cond j (some (.inl (w64 (a - 1)))) (some (.inr a))
noncomputable def q82 (d : Int) (a : Int × Int × List Int) : Option ((Int × Int × List Int) ⊕ (Int × List Int)):=
  (loop (q83 a d) a.1).bind fun b=>(loop (q84 b a d) a.2.1).bind fun c=>cond (decide (b > c)) (some (.inr (c,a.2.2))) ((idx a.2.2 c).bind fun f=>(idx a.2.2 b).bind fun g=>(idx a.2.2 b).bind fun _=>(idx (a.2.2.set b.toNat f) c).bind fun _=>some (.inl (w64 (b + 1),w64 (c - 1),(a.2.2.set b.toNat f).set c.toNat g)))
noncomputable def q7z (b : List Int) (a : Int) (k : Int) (c : Int) : Option (Int × Bool × List Int):=
  (idx b c).bind fun d=>(idx b a).bind fun f=>(idx b a).bind fun _=>(idx (b.set a.toNat d) c).bind fun _=>(loop (q80 k b a d c f) (w64 (a + 1))).bind fun j=>(loop (q81 j b a d c f) (w64 (k - 1))).bind fun g=>cond (decide (j > g)) ((idx ((b.set a.toNat d).set c.toNat f) a).bind fun l=>(idx ((b.set a.toNat d).set c.toNat f) g).bind fun o=>(idx ((b.set a.toNat d).set c.toNat f) g).bind fun _=>(idx (((b.set a.toNat d).set c.toNat f).set g.toNat l) a).bind fun _=>some (g,true,(((b.set a.toNat d).set c.toNat f).set g.toNat l).set a.toNat o)) ((idx ((b.set a.toNat d).set c.toNat f) g).bind fun m=>(idx ((b.set a.toNat d).set c.toNat f) j).bind fun p=>(idx ((b.set a.toNat d).set c.toNat f) j).bind fun _=>(idx (((b.set a.toNat d).set c.toNat f).set j.toNat m) g).bind fun _=>(loop (q82 a) (w64 (j + 1),w64 (g - 1),(((b.set a.toNat d).set c.toNat f).set j.toNat m).set g.toNat p)).bind fun h=>(idx h.2 a).bind fun n=>(idx h.2 h.1).bind fun q=>(idx h.2 h.1).bind fun _=>(idx (h.2.set h.1.toNat n) a).bind fun _=>some (h.1,false,(h.2.set h.1.toNat n).set a.toNat q))
noncomputable def q2b (a : Int) : Option Int:=
  (q19 (IntKind.wrap .u64 a)).bind fun b=>(shlK .u64 1 b).bind fun c=>some c
noncomputable def q2c (a : Int) : Option Int:=
  some (xorI .u64 (xorI .u64 (xorI .u64 a (IntKind.wrap .u64 (a * (2 ^ 13)))) (Int.fdiv (xorI .u64 a (IntKind.wrap .u64 (a * (2 ^ 13)))) (2 ^ 7))) (IntKind.wrap .u64 ((xorI .u64 (xorI .u64 a (IntKind.wrap .u64 (a * (2 ^ 13)))) (Int.fdiv (xorI .u64 a (IntKind.wrap .u64 (a * (2 ^ 13)))) (2 ^ 7))) * (2 ^ 17))))
noncomputable def q7i (b : Int) (d : Int) (f : Int) (a : Int × List Int × Int) : Option ((Int × List Int × Int) ⊕ (List Int)):=
  cond (decide (a.1≤(w64 ((w64 (b + (w64 ((w64 (Int.tdiv (w64 (d - b)) 4)) * 2)))) + 1)))) ((q2c a.2.2).bind fun c=>(cond (decide ((w64 (andI .u64 c (IntKind.wrap .u64 (f - 1)))) ≥ (w64 (d - b)))) (some (w64 ((w64 (andI .u64 c (IntKind.wrap .u64 (f - 1)))) - (w64 (d - b))))) (some (w64 (andI .u64 c (IntKind.wrap .u64 (f - 1)))))).bind fun g=>(idx a.2.1 (w64 (b + g))).bind fun h=>(idx a.2.1 a.1).bind fun j=>(idx a.2.1 a.1).bind fun _=>(idx (a.2.1.set a.1.toNat h) (w64 (b + g))).bind fun _=>some (.inl (w64 (a.1 + 1),(a.2.1.set a.1.toNat h).set (w64 (b + g)).toNat j,c))) (some (.inr a.2.1))
noncomputable def q7h (c : List Int) (a : Int) (b : Int) : Option (List Int):=
  cond (decide ((w64 (b - a)) ≥ 8)) ((q2b (w64 (b - a))).bind fun d=>(loop (q7i a b d) (w64 ((w64 (a + (w64 ((w64 (Int.tdiv (w64 (b - a)) 4)) * 2)))) - 1),c,IntKind.wrap .u64 (w64 (b - a)))).bind fun f=>some f) (some c)
noncomputable def q59 (rec : List Int→Int→Int→Int→Option (List Int)) (a : Int × Int × Int × Bool × Bool × List Int) : Option ((Int × Int × Int × Bool × Bool × List Int) ⊕ (List Int)):=
  cond (decide ((w64 (a.2.1 - a.1))≤12)) ((q7n a.2.2.2.2.2 a.1 a.2.1).bind fun k=>(K1 k.length a.2.2.2.2.2.length).bind fun _=>some (.inr k)) (cond (a.2.2.1 == 0) ((q7k a.2.2.2.2.2 a.1 a.2.1).bind fun l=>(K1 l.length a.2.2.2.2.2.length).bind fun _=>some (.inr l)) ((cond (!a.2.2.2.1) ((q7h a.2.2.2.2.2 a.1 a.2.1).bind fun m=>(K1 m.length a.2.2.2.2.2.length).bind fun _=>some (w64 (a.2.2.1 - 1),m)) (some (a.2.2.1,a.2.2.2.2.2))).bind fun c=>(q7j c.2 a.1 a.2.1).bind fun g=>(cond (g.2 == 2) ((q89 c.2 a.1 a.2.1).bind fun n=>(K1 n.length c.2.length).bind fun _=>some (w64 ((w64 (a.2.1 - 1)) - (w64 (g.1 - a.1))),1,n)) (some (g.1,g.2,c.2))).bind fun d=>(cond a.2.2.2.1 (some a.2.2.2.2.1) (some false)).bind fun q=>(cond q (some (d.2.1 == 1)) (some false)).bind fun r=>(cond r ((q57 d.2.2 a.1 a.2.1).bind fun h=>(K1 h.2.length d.2.2.length).bind fun _=>cond h.1 (some (.inr h.2)) (some (.inl h.2))) (some (.inl d.2.2)) : Option ((List Int) ⊕ (List Int))).bind fun s=>(match s with | .inl f=>(cond (decide (a.1 > 0)) ((idx f (w64 (a.1 - 1))).bind fun t=>(idx f d.1).bind fun u=>(Zc t u).bind fun v=>some (!v)) (some false)).bind fun x=>cond x ((q7v f a.1 a.2.1 d.1).bind fun j=>(K1 j.2.length f.length).bind fun _=>some (.inl (j.1,a.2.1,c.1,a.2.2.2.1,a.2.2.2.2.1,j.2))) ((q7z f a.1 a.2.1 d.1).bind fun b=>(K1 b.2.2.length f.length).bind fun _=>cond (decide ((w64 (b.1 - a.1)) < (w64 (a.2.1 - b.1)))) ((rec b.2.2 a.1 b.1 c.1).bind fun o=>(K1 o.length b.2.2.length).bind fun _=>some (.inl (w64 (b.1 + 1),a.2.1,c.1,decide ((w64 (b.1 - a.1)) ≥ (w64 (Int.tdiv (w64 (a.2.1 - a.1)) 8))),b.2.1,o))) ((rec b.2.2 (w64 (b.1 + 1)) a.2.1 c.1).bind fun p=>(K1 p.length b.2.2.length).bind fun _=>some (.inl (a.1,b.1,c.1,decide ((w64 (a.2.1 - b.1)) ≥ (w64 (Int.tdiv (w64 (a.2.1 - a.1)) 8))),b.2.1,p)))) | .inr y=>some (.inr y))))
noncomputable def q5a (rec : List Int→Int→Int→Int→Option (List Int)) (a : List Int) (b : Int) (c : Int) (d : Int) : Option (List Int):=
  (loop (q59 rec) (b,c,d,true,true,a)).bind fun f=>some f
noncomputable def q88 : Nat→List Int→Int→Int→Int→Option (List Int)
  | 0,_,_,_,_=>none
  | n + 1,a,b,c,d=>q5a (q88 n)  a b c d
noncomputable def q1e (a : List Int) : Option (List Int):=
  (q19 (IntKind.wrap .u64 (a.length : Int))).bind fun c=>(lim (fun n=>q88 n a 0 (a.length : Int) c)).bind fun b=>(K1 b.length a.length).bind fun _=>some b
noncomputable def q2a (a : Int × (Nat × Nat) × Int × List Int) : Option ((Int × (Nat × Nat) × Int × List Int) ⊕ (Int × List Int)):=
  cond (decide (a.2.2.1 < (a.2.1.2 : Int))) (((idxW a.2.2.2 a.2.1 a.2.2.1).bind fun c=>(idxW a.2.2.2 a.2.1 (w64 (a.2.2.1 - 1))).bind fun d=>cond (c != d) ((idxW a.2.2.2 a.2.1 a.2.2.1).bind fun f=>(idx a.2.2.2 a.1).bind fun _=>some (w64 (a.1 + 1),a.2.1,a.2.2.2.set a.1.toNat f)) (some (a.1,a.2.1,a.2.2.2))).bind fun b=>some (.inl (b.1,b.2.1,w64 (a.2.2.1 + 1),b.2.2))) (some (.inr (a.1,a.2.2.2)))
noncomputable def Jr (a : List Int) (b : Int) : Option ((Int) ⊕ ((Unit) ⊕ ((Nat × Nat) × List Int))):=
  cond (decide (b < (a.length : Int))) ((idx a b).bind fun d=>(idx a (w64 (b - 1))).bind fun f=>cond (d == f) ((sub2 a.length b a.length).bind fun g=>(loop q2a (b,g,1,a)).bind fun c=>(sub2 c.2.length c.1 c.2.length).bind fun h=>(sub2 c.2.length 0 c.1).bind fun j=>some (.inr (.inr (j,clrw c.2 h 0)))) (some (.inl (w64 (b + 1))))) (some (.inr (.inl ())))
noncomputable def q3i (a : List Int) : Option ((Nat × Nat) × List Int):=
  cond (decide ((a.length : Int) < 2)) (some ((0,a.length),a)) ((loop (Jr a) 1 : Option ((Unit) ⊕ ((Nat × Nat) × List Int))).bind fun b=>(match b with | .inl _=>some ((0,a.length),a) | .inr c=>some c))
structure ql where
  X0 : Int
  Y0 : Int
  X1 : Int
  Y1 : Int
  deriving DecidableEq
def Qg (x : ql) : List DV:=[.int .i64 x.X0,.int .i64 x.Y0,.int .i64 x.X1,.int .i64 x.Y1]
noncomputable def q53 (b : List ql) (c : ql→Option Bool) (a : Int) : Option ((Int) ⊕ ((Unit) ⊕ (Int))):=
  cond (decide (a < (b.length : Int))) ((idx b a).bind fun d=>(c d).bind fun f=>cond f (some (.inr (.inr a))) (some (.inl (w64 (a + 1))))) (some (.inr (.inl ())))
noncomputable def qe4 (a : List ql) (b : ql→Option Bool) : Option Int:=
  (loop (q53 a b) 0 : Option ((Unit) ⊕ (Int))).bind fun c=>(match c with | .inl _=>some (-1) | .inr d=>some d)
noncomputable def qab (a : List ql) (b : ql→Option Bool) : Option Bool:=
  (qe4 a b).bind fun c=>some (decide (c ≥ 0))
noncomputable def q3c (a : Int) : Option Bool:=
  (cond (decide (a ≥ (-1000000))) (some (decide (a≤1000000))) (some false)).bind fun b=>some b
noncomputable def qa4 (a : ql) : Option Bool:=
  (cond (decide (a.X0 < a.X1)) (some (decide (a.Y0 < a.Y1))) (some false)).bind fun b=>(cond b ((q3c a.X0).bind fun c=>some c) (some false)).bind fun d=>(cond d ((q3c a.X1).bind fun f=>some f) (some false)).bind fun g=>(cond g ((q3c a.Y0).bind fun h=>some h) (some false)).bind fun j=>(cond j ((q3c a.Y1).bind fun k=>some k) (some false)).bind fun l=>some l
noncomputable def q3b (a : ql) : Option Bool:=
  (qa4 a).bind fun b=>some (!b)
def J0 (x : List ql) : List DV:=[.sl 4 (x.map Qg)]
structure qo where
  Lo : Int
  Hi : Int
  deriving DecidableEq
def Qv (x : qo) : List DV:=[.int .i64 x.Lo,.int .i64 x.Hi]
noncomputable def q3j (b : List qo) (c : qo→Option Bool) (a : Int) : Option ((Int) ⊕ ((Unit) ⊕ (Int))):=
  cond (decide (a < (b.length : Int))) ((idx b a).bind fun d=>(c d).bind fun f=>cond f (some (.inr (.inr a))) (some (.inl (w64 (a + 1))))) (some (.inr (.inl ())))
noncomputable def qae (a : List qo) (b : qo→Option Bool) : Option Int:=
  (loop (q3j a b) 0 : Option ((Unit) ⊕ (Int))).bind fun c=>(match c with | .inl _=>some (-1) | .inr d=>some d)
noncomputable def qac (a : List qo) (b : qo→Option Bool) : Option Bool:=
  (qae a b).bind fun c=>some (decide (c ≥ 0))
noncomputable def q3p (a : qo) : Option Bool:=
  (cond (decide (a.Lo < a.Hi)) (some (decide (a.Lo ≥ (-1000000)))) (some false)).bind fun b=>(cond b (some (decide (a.Hi≤1000000))) (some false)).bind fun c=>some c
noncomputable def qeb (a : qo) : Option Bool:=
  (q3p a).bind fun b=>some (!b)
def q1n (x : List qo) : List DV:=[.sl 2 (x.map Qv)]
structure qk where
  at_ : Int
  list_ : Int
  by_ : Int
  deriving DecidableEq
def Qe (x : qk) : List DV:=[.int .i64 x.at_,.int .i64 x.list_,.int .i64 x.by_]
noncomputable def qbe (a : qk) (b : qk) : Option Int:=
  some (w64 (a.at_ - b.at_))
noncomputable def qan (c : Int) (d : qk→qk→Option Int) (a : Int × List qk) : Option ((Int × List qk) ⊕ (List qk)):=
  (cond (decide (a.1 > c)) ((idx a.2 a.1).bind fun f=>(idx a.2 (w64 (a.1 - 1))).bind fun g=>(d f g).bind fun h=>some (decide (h < 0))) (some false)).bind fun j=>cond j ((idx a.2 (w64 (a.1 - 1))).bind fun b=>(idx a.2 a.1).bind fun k=>(idx a.2 a.1).bind fun _=>(idx (a.2.set a.1.toNat b) (w64 (a.1 - 1))).bind fun _=>some (.inl (w64 (a.1 - 1),(a.2.set a.1.toNat b).set (w64 (a.1 - 1)).toNat k))) (some (.inr a.2))
noncomputable def qam (b : Int) (c : Int) (d : qk→qk→Option Int) (a : Int × List qk) : Option ((Int × List qk) ⊕ (List qk)):=
  cond (decide (a.1 < b)) (((loop (qan c d) (a.1,a.2)).bind fun f=>some f).bind fun g=>some (.inl (w64 (a.1 + 1),g))) (some (.inr a.2))
noncomputable def qal (b : qk→qk→Option Int) (c : List qk) (a : Int) (d : Int) : Option (List qk):=
  (loop (qam d a b) (w64 (a + 1),c)).bind fun f=>some f
noncomputable def qb5 (d : Int) (b : Int) (f : qk→qk→Option Int) (a : Int × List qk) : Option ((Int × List qk) ⊕ (List qk)):=
  cond (decide ((w64 ((w64 (2 * a.1)) + 1)) ≥ d)) (some (.inr a.2)) ((cond (decide ((w64 ((w64 ((w64 (2 * a.1)) + 1)) + 1)) < d)) ((idx a.2 (w64 (b + (w64 ((w64 (2 * a.1)) + 1))))).bind fun h=>(idx a.2 (w64 ((w64 (b + (w64 ((w64 (2 * a.1)) + 1)))) + 1))).bind fun j=>(f h j).bind fun k=>some (decide (k < 0))) (some false)).bind fun l=>(cond l (some (w64 ((w64 ((w64 (2 * a.1)) + 1)) + 1))) (some (w64 ((w64 (2 * a.1)) + 1)))).bind fun c=>(idx a.2 (w64 (b + a.1))).bind fun m=>(idx a.2 (w64 (b + c))).bind fun n=>(f m n).bind fun o=>cond (!(decide (o < 0))) (some (.inr a.2)) ((idx a.2 (w64 (b + c))).bind fun g=>(idx a.2 (w64 (b + a.1))).bind fun p=>(idx a.2 (w64 (b + a.1))).bind fun _=>(idx (a.2.set (w64 (b + a.1)).toNat g) (w64 (b + c))).bind fun _=>some (.inl (c,(a.2.set (w64 (b + a.1)).toNat g).set (w64 (b + c)).toNat p))))
noncomputable def q8a (a : qk→qk→Option Int) (b : List qk) (c : Int) (d : Int) (f : Int) : Option (List qk):=
  (loop (qb5 d f a) (c,b)).bind fun g=>some g
noncomputable def qaj (d : qk→qk→Option Int) (f : Int) (b : Int) (a : Int × List qk) : Option ((Int × List qk) ⊕ (List qk)):=
  cond (decide (a.1 ≥ 0)) ((q8a d a.2 a.1 (w64 (f - b)) b).bind fun c=>(K1 c.length a.2.length).bind fun _=>some (.inl (w64 (a.1 - 1),c))) (some (.inr a.2))
noncomputable def qak (b : Int) (g : qk→qk→Option Int) (a : Int × List qk) : Option ((Int × List qk) ⊕ (List qk)):=
  cond (decide (a.1 ≥ 0)) ((idx a.2 (w64 (b + a.1))).bind fun c=>(idx a.2 b).bind fun d=>(idx a.2 b).bind fun _=>(idx (a.2.set b.toNat c) (w64 (b + a.1))).bind fun _=>(q8a g ((a.2.set b.toNat c).set (w64 (b + a.1)).toNat d) 0 a.1 b).bind fun f=>(K1 f.length ((a.2.set b.toNat c).set (w64 (b + a.1)).toNat d).length).bind fun _=>some (.inl (w64 (a.1 - 1),f))) (some (.inr a.2))
noncomputable def qai (c : qk→qk→Option Int) (d : List qk) (a : Int) (b : Int) : Option (List qk):=
  (loop (qaj c b a) (w64 (Int.tdiv (w64 ((w64 (b - a)) - 1)) 2),d)).bind fun f=>(loop (qak a c) (w64 ((w64 (b - a)) - 1),f)).bind fun g=>some g
noncomputable def q56 (f : qk→qk→Option Int) (c : List qk) (a : Int) (b : Int) (d : Int) : Option (Int × Int × Int):=
  (idx c b).bind fun g=>(idx c a).bind fun h=>(f g h).bind fun j=>cond (decide (j < 0)) (some (b,a,w64 (d + 1))) (some (a,b,d))
noncomputable def q7q (a : qk→qk→Option Int) (b : List qk) (g : Int) (h : Int) (j : Int) (k : Int) : Option (Int × Int):=
  (q56 a b g h k).bind fun c=>(q56 a b c.2.1 j c.2.2).bind fun d=>(q56 a b c.1 d.1 d.2.2).bind fun f=>some (f.2.1,f.2.2)
noncomputable def q54 (c : qk→qk→Option Int) (d : List qk) (a : Int) (f : Int) : Option (Int × Int):=
  (q7q c d (w64 (a - 1)) a (w64 (a + 1)) f).bind fun b=>some (b.1,b.2)
noncomputable def qah (d : List qk) (a : Int) (b : Int) (f : qk→qk→Option Int) : Option (Int × Int):=
  (cond (decide ((w64 (b - a)) ≥ 8)) ((cond (decide ((w64 (b - a)) ≥ 50)) ((q54 f d (w64 (a + (w64 ((w64 (Int.tdiv (w64 (b - a)) 4)) * 1)))) 0).bind fun h=>(q54 f d (w64 (a + (w64 ((w64 (Int.tdiv (w64 (b - a)) 4)) * 2)))) h.2).bind fun j=>(q54 f d (w64 (a + (w64 ((w64 (Int.tdiv (w64 (b - a)) 4)) * 3)))) j.2).bind fun k=>some (h.1,j.1,k.1,k.2)) (some (w64 (a + (w64 ((w64 (Int.tdiv (w64 (b - a)) 4)) * 1))),w64 (a + (w64 ((w64 (Int.tdiv (w64 (b - a)) 4)) * 2))),w64 (a + (w64 ((w64 (Int.tdiv (w64 (b - a)) 4)) * 3))),0))).bind fun g=>(q7q f d g.1 g.2.1 g.2.2.1 g.2.2.2).bind fun l=>some (l.1,l.2)) (some (w64 (a + (w64 ((w64 (Int.tdiv (w64 (b - a)) 4)) * 2))),0))).bind fun c=>cond (c.2 == 0) (some (c.1,1)) (cond (c.2 == 12) (some (c.1,2)) (some (c.1,0)))
noncomputable def qb3 (a : Int × Int × List qk) : Option ((Int × Int × List qk) ⊕ (List qk)):=
  cond (decide (a.1 < a.2.1)) ((idx a.2.2 a.2.1).bind fun b=>(idx a.2.2 a.1).bind fun c=>(idx a.2.2 a.1).bind fun _=>(idx (a.2.2.set a.1.toNat b) a.2.1).bind fun _=>some (.inl (w64 (a.1 + 1),w64 (a.2.1 - 1),(a.2.2.set a.1.toNat b).set a.2.1.toNat c))) (some (.inr a.2.2))
noncomputable def qb2 (f : qk→qk→Option Int) (a : List qk) (b : Int) (c : Int) : Option (List qk):=
  (loop qb3 (b,w64 (c - 1),a)).bind fun d=>some d
noncomputable def qao (c : Int) (b : Int × Int × List qk) (d : qk→qk→Option Int) (a : Int) : Option ((Int) ⊕ (Int)):=
  (cond (decide (a < c)) ((idx b.2.2 a).bind fun f=>(idx b.2.2 (w64 (a - 1))).bind fun g=>(d f g).bind fun h=>some (!(decide (h < 0)))) (some false)).bind fun j=>cond j (some (.inl (w64 (a + 1)))) (some (.inr a))
noncomputable def qap (c : qk→qk→Option Int) (a : Int × List qk) : Option ((Int × List qk) ⊕ (List qk)):=
  cond (decide (a.1 ≥ 1)) ((idx a.2 a.1).bind fun d=>(idx a.2 (w64 (a.1 - 1))).bind fun f=>(c d f).bind fun g=>cond (!(decide (g < 0))) (some (.inr a.2)) ((idx a.2 (w64 (a.1 - 1))).bind fun b=>(idx a.2 a.1).bind fun h=>(idx a.2 a.1).bind fun _=>(idx (a.2.set a.1.toNat b) (w64 (a.1 - 1))).bind fun _=>some (.inl (w64 (a.1 - 1),(a.2.set a.1.toNat b).set (w64 (a.1 - 1)).toNat h)))) (some (.inr a.2))
noncomputable def qaq (d : Int) (f : qk→qk→Option Int) (b : Int) (a : Int × List qk) : Option ((Int × List qk) ⊕ (Int × List qk)):=
  cond (decide (a.1 < d)) ((idx a.2 a.1).bind fun g=>(idx a.2 (w64 (a.1 - 1))).bind fun h=>(f g h).bind fun j=>cond (!(decide (j < 0))) (some (.inr (b,a.2))) ((idx a.2 (w64 (a.1 - 1))).bind fun c=>(idx a.2 a.1).bind fun k=>(idx a.2 a.1).bind fun _=>(idx (a.2.set a.1.toNat c) (w64 (a.1 - 1))).bind fun _=>some (.inl (w64 (a.1 + 1),(a.2.set a.1.toNat c).set (w64 (a.1 - 1)).toNat k)))) (some (.inr (b,a.2)))
noncomputable def q7s (c : Int) (d : qk→qk→Option Int) (h : Int) (b : Int × Int × List qk) : Option ((Int × Int × List qk) ⊕ ((List qk) ⊕ (Bool × List qk))):=
  cond (decide (b.2.1 < 5)) (((loop (qao c b d) b.1).bind fun a=>cond (a == c) (some (.inr (true,b.2.2))) (cond (decide ((w64 (c - h)) < 50)) (some (.inr (false,b.2.2))) ((idx b.2.2 (w64 (a - 1))).bind fun f=>(idx b.2.2 a).bind fun j=>(idx b.2.2 a).bind fun _=>(idx (b.2.2.set a.toNat f) (w64 (a - 1))).bind fun _=>(cond (decide ((w64 (a - h)) ≥ 2)) ((loop (qap d) (w64 (a - 1),(b.2.2.set a.toNat f).set (w64 (a - 1)).toNat j)).bind fun g=>some g) (some ((b.2.2.set a.toNat f).set (w64 (a - 1)).toNat j))).bind fun k=>cond (decide ((w64 (c - a)) ≥ 2)) ((loop (qaq c d a) (w64 (a + 1),k)).bind fun g=>some (.inl g)) (some (.inl (a,k))))) : Option ((Int × List qk) ⊕ (Bool × List qk))).bind fun m=>(match m with | .inl l=>some (.inl (l.1,w64 (b.2.1 + 1),l.2)) | .inr n=>some (.inr (.inr n)))) (some (.inr (.inl b.2.2)))
noncomputable def q7r (b : qk→qk→Option Int) (c : List qk) (a : Int) (d : Int) : Option (Bool × List qk):=
  (loop (q7s d b a) (w64 (a + 1),0,c) : Option ((List qk) ⊕ (Bool × List qk))).bind fun f=>(match f with | .inl g=>some (false,g) | .inr h=>some h)
noncomputable def qb0 (b : Int × Int × List qk) (c : Int) (d : qk→qk→Option Int) (a : Int) : Option ((Int) ⊕ (Int)):=
  (cond (decide (a≤b.2.1)) ((idx b.2.2 c).bind fun f=>(idx b.2.2 a).bind fun g=>(d f g).bind fun h=>some (!(decide (h < 0)))) (some false)).bind fun j=>cond j (some (.inl (w64 (a + 1)))) (some (.inr a))
noncomputable def qb1 (c : Int) (b : Int × Int × List qk) (d : Int) (f : qk→qk→Option Int) (a : Int) : Option ((Int) ⊕ (Int)):=
  (cond (decide (c≤a)) ((idx b.2.2 d).bind fun g=>(idx b.2.2 a).bind fun h=>(f g h).bind fun j=>some (decide (j < 0))) (some false)).bind fun k=>cond k (some (.inl (w64 (a - 1)))) (some (.inr a))
noncomputable def qaz (d : Int) (f : qk→qk→Option Int) (a : Int × Int × List qk) : Option ((Int × Int × List qk) ⊕ (Int × List qk)):=
  (loop (qb0 a d f) a.1).bind fun b=>(loop (qb1 b a d f) a.2.1).bind fun c=>cond (decide (b > c)) (some (.inr (b,a.2.2))) ((idx a.2.2 c).bind fun g=>(idx a.2.2 b).bind fun h=>(idx a.2.2 b).bind fun _=>(idx (a.2.2.set b.toNat g) c).bind fun _=>some (.inl (w64 (b + 1),w64 (c - 1),(a.2.2.set b.toNat g).set c.toNat h)))
noncomputable def qay (g : qk→qk→Option Int) (b : List qk) (a : Int) (h : Int) (c : Int) : Option (Int × List qk):=
  (idx b c).bind fun d=>(idx b a).bind fun j=>(idx b a).bind fun _=>(idx (b.set a.toNat d) c).bind fun _=>(loop (qaz a g) (w64 (a + 1),w64 (h - 1),(b.set a.toNat d).set c.toNat j)).bind fun f=>some (f.1,f.2)
noncomputable def qat (h : Int) (c : List qk) (b : Int) (d : qk) (f : Int) (g : qk) (j : qk→qk→Option Int) (a : Int) : Option ((Int) ⊕ (Int)):=
  (cond (decide (a≤(w64 (h - 1)))) ((idx ((c.set b.toNat d).set f.toNat g) a).bind fun k=>(idx ((c.set b.toNat d).set f.toNat g) b).bind fun l=>(j k l).bind fun m=>some (decide (m < 0))) (some false)).bind fun n=>cond n (some (.inl (w64 (a + 1)))) (some (.inr a))
noncomputable def qau (h : Int) (c : List qk) (b : Int) (d : qk) (f : Int) (g : qk) (j : qk→qk→Option Int) (a : Int) : Option ((Int) ⊕ (Int)):=
  (cond (decide (h≤a)) ((idx ((c.set b.toNat d).set f.toNat g) a).bind fun k=>(idx ((c.set b.toNat d).set f.toNat g) b).bind fun l=>(j k l).bind fun m=>some (!(decide (m < 0)))) (some false)).bind fun n=>cond n (some (.inl (w64 (a - 1)))) (some (.inr a))
noncomputable def qaw (b : Int × Int × List qk) (c : Int) (d : qk→qk→Option Int) (a : Int) : Option ((Int) ⊕ (Int)):=
  (cond (decide (a≤b.2.1)) ((idx b.2.2 a).bind fun f=>(idx b.2.2 c).bind fun g=>(d f g).bind fun h=>some (decide (h < 0))) (some false)).bind fun j=>cond j (some (.inl (w64 (a + 1)))) (some (.inr a))
noncomputable def qax (c : Int) (b : Int × Int × List qk) (d : Int) (f : qk→qk→Option Int) (a : Int) : Option ((Int) ⊕ (Int)):=
  (cond (decide (c≤a)) ((idx b.2.2 a).bind fun g=>(idx b.2.2 d).bind fun h=>(f g h).bind fun j=>some (!(decide (j < 0)))) (some false)).bind fun k=>cond k (some (.inl (w64 (a - 1)))) (some (.inr a))
noncomputable def qav (d : Int) (f : qk→qk→Option Int) (a : Int × Int × List qk) : Option ((Int × Int × List qk) ⊕ (Int × List qk)):=
  (loop (qaw a d f) a.1).bind fun b=>(loop (qax b a d f) a.2.1).bind fun c=>cond (decide (b > c)) (some (.inr (c,a.2.2))) ((idx a.2.2 c).bind fun g=>(idx a.2.2 b).bind fun h=>(idx a.2.2 b).bind fun _=>(idx (a.2.2.set b.toNat g) c).bind fun _=>some (.inl (w64 (b + 1),w64 (c - 1),(a.2.2.set b.toNat g).set c.toNat h)))
noncomputable def qas (k : qk→qk→Option Int) (b : List qk) (a : Int) (l : Int) (c : Int) : Option (Int × Bool × List qk):=
  (idx b c).bind fun d=>(idx b a).bind fun f=>(idx b a).bind fun _=>(idx (b.set a.toNat d) c).bind fun _=>(loop (qat l b a d c f k) (w64 (a + 1))).bind fun j=>(loop (qau j b a d c f k) (w64 (l - 1))).bind fun g=>cond (decide (j > g)) ((idx ((b.set a.toNat d).set c.toNat f) a).bind fun m=>(idx ((b.set a.toNat d).set c.toNat f) g).bind fun p=>(idx ((b.set a.toNat d).set c.toNat f) g).bind fun _=>(idx (((b.set a.toNat d).set c.toNat f).set g.toNat m) a).bind fun _=>some (g,true,(((b.set a.toNat d).set c.toNat f).set g.toNat m).set a.toNat p)) ((idx ((b.set a.toNat d).set c.toNat f) g).bind fun n=>(idx ((b.set a.toNat d).set c.toNat f) j).bind fun q=>(idx ((b.set a.toNat d).set c.toNat f) j).bind fun _=>(idx (((b.set a.toNat d).set c.toNat f).set j.toNat n) g).bind fun _=>(loop (qav a k) (w64 (j + 1),w64 (g - 1),(((b.set a.toNat d).set c.toNat f).set j.toNat n).set g.toNat q)).bind fun h=>(idx h.2 a).bind fun o=>(idx h.2 h.1).bind fun r=>(idx h.2 h.1).bind fun _=>(idx (h.2.set h.1.toNat o) a).bind fun _=>some (h.1,false,(h.2.set h.1.toNat o).set a.toNat r))
noncomputable def qag (b : Int) (d : Int) (f : Int) (a : Int × List qk × Int) : Option ((Int × List qk × Int) ⊕ (List qk)):=
  cond (decide (a.1≤(w64 ((w64 (b + (w64 ((w64 (Int.tdiv (w64 (d - b)) 4)) * 2)))) + 1)))) ((q2c a.2.2).bind fun c=>(cond (decide ((w64 (andI .u64 c (IntKind.wrap .u64 (f - 1)))) ≥ (w64 (d - b)))) (some (w64 ((w64 (andI .u64 c (IntKind.wrap .u64 (f - 1)))) - (w64 (d - b))))) (some (w64 (andI .u64 c (IntKind.wrap .u64 (f - 1)))))).bind fun g=>(idx a.2.1 (w64 (b + g))).bind fun h=>(idx a.2.1 a.1).bind fun j=>(idx a.2.1 a.1).bind fun _=>(idx (a.2.1.set a.1.toNat h) (w64 (b + g))).bind fun _=>some (.inl (w64 (a.1 + 1),(a.2.1.set a.1.toNat h).set (w64 (b + g)).toNat j,c))) (some (.inr a.2.1))
noncomputable def qaf (g : qk→qk→Option Int) (c : List qk) (a : Int) (b : Int) : Option (List qk):=
  cond (decide ((w64 (b - a)) ≥ 8)) ((q2b (w64 (b - a))).bind fun d=>(loop (qag a b d) (w64 ((w64 (a + (w64 ((w64 (Int.tdiv (w64 (b - a)) 4)) * 2)))) - 1),c,IntKind.wrap .u64 (w64 (b - a)))).bind fun f=>some f) (some c)
noncomputable def q86 (c : qk→qk→Option Int) (rec : List qk→Int→Int→Int→Option (List qk)) (a : Int × Int × Int × Bool × Bool × List qk) : Option ((Int × Int × Int × Bool × Bool × List qk) ⊕ (List qk)):=
  cond (decide ((w64 (a.2.1 - a.1))≤12)) ((qal c a.2.2.2.2.2 a.1 a.2.1).bind fun l=>(K1 l.length a.2.2.2.2.2.length).bind fun _=>some (.inr l)) (cond (a.2.2.1 == 0) ((qai c a.2.2.2.2.2 a.1 a.2.1).bind fun m=>(K1 m.length a.2.2.2.2.2.length).bind fun _=>some (.inr m)) ((cond (!a.2.2.2.1) ((qaf c a.2.2.2.2.2 a.1 a.2.1).bind fun n=>(K1 n.length a.2.2.2.2.2.length).bind fun _=>some (w64 (a.2.2.1 - 1),n)) (some (a.2.2.1,a.2.2.2.2.2))).bind fun d=>(qah d.2 a.1 a.2.1 c).bind fun h=>(cond (h.2 == 2) ((qb2 c d.2 a.1 a.2.1).bind fun o=>(K1 o.length d.2.length).bind fun _=>some (w64 ((w64 (a.2.1 - 1)) - (w64 (h.1 - a.1))),1,o)) (some (h.1,h.2,d.2))).bind fun f=>(cond a.2.2.2.1 (some a.2.2.2.2.1) (some false)).bind fun r=>(cond r (some (f.2.1 == 1)) (some false)).bind fun s=>(cond s ((q7r c f.2.2 a.1 a.2.1).bind fun j=>(K1 j.2.length f.2.2.length).bind fun _=>cond j.1 (some (.inr j.2)) (some (.inl j.2))) (some (.inl f.2.2)) : Option ((List qk) ⊕ (List qk))).bind fun t=>(match t with | .inl g=>(cond (decide (a.1 > 0)) ((idx g (w64 (a.1 - 1))).bind fun u=>(idx g f.1).bind fun v=>(c u v).bind fun x=>some (!(decide (x < 0)))) (some false)).bind fun y=>cond y ((qay c g a.1 a.2.1 f.1).bind fun k=>(K1 k.2.length g.length).bind fun _=>some (.inl (k.1,a.2.1,d.1,a.2.2.2.1,a.2.2.2.2.1,k.2))) ((qas c g a.1 a.2.1 f.1).bind fun b=>(K1 b.2.2.length g.length).bind fun _=>cond (decide ((w64 (b.1 - a.1)) < (w64 (a.2.1 - b.1)))) ((rec b.2.2 a.1 b.1 d.1).bind fun p=>(K1 p.length b.2.2.length).bind fun _=>some (.inl (w64 (b.1 + 1),a.2.1,d.1,decide ((w64 (b.1 - a.1)) ≥ (w64 (Int.tdiv (w64 (a.2.1 - a.1)) 8))),b.2.1,p))) ((rec b.2.2 (w64 (b.1 + 1)) a.2.1 d.1).bind fun q=>(K1 q.length b.2.2.length).bind fun _=>some (.inl (a.1,b.1,d.1,decide ((w64 (a.2.1 - b.1)) ≥ (w64 (Int.tdiv (w64 (a.2.1 - a.1)) 8))),b.2.1,q)))) | .inr z=>some (.inr z))))
noncomputable def q87 (rec : List qk→Int→Int→Int→Option (List qk)) (a : qk→qk→Option Int) (b : List qk) (c : Int) (d : Int) (f : Int) : Option (List qk):=
  (loop (q86 a rec) (c,d,f,true,true,b)).bind fun g=>some g
noncomputable def q85 : Nat→(qk→qk→Option Int)→List qk→Int→Int→Int→Option (List qk)
  | 0,_,_,_,_,_=>none
  | n + 1,a,b,c,d,f=>q87 (q85 n a) a b c d f
noncomputable def q7g (c : qk→qk→Option Int) (a : List qk) : Option (List qk):=
  (q19 (IntKind.wrap .u64 (a.length : Int))).bind fun d=>(lim (fun n=>q85 n c a 0 (a.length : Int) d)).bind fun b=>(K1 b.length a.length).bind fun _=>some b
noncomputable def qe5 (a : List qk) : Option (List qk):=
  some a
noncomputable def q5n (b : List qo) (c : Int × List qk) (a : Int × List qk) : Option ((Int × List qk) ⊕ (List qk)):=
  cond (decide (a.1 < (b.length : Int))) ((idx b a.1).bind fun d=>(app 24 a.2 [({at_:=d.Lo,list_:=c.1,by_:=1} : qk),({at_:=d.Hi,list_:=c.1,by_:=(-1)} : qk)]).bind fun f=>some (.inl (w64 (a.1 + 1),f))) (some (.inr a.2))
noncomputable def q1f (b : List (List qo)) (a : Int × List qk) : Option ((Int × List qk) ⊕ (List qk)):=
  cond (decide (a.1 < (b.length : Int))) (((idx b a.1).bind fun c=>(loop (q5n c a) (0,a.2)).bind fun d=>some d).bind fun f=>some (.inl (w64 (a.1 + 1),f))) (some (.inr a.2))
noncomputable def qbf (b : List (List qo)) : Option (List (List qo) × List qk):=
  (loop (q1f b) (0,[])).bind fun c=>(q7g (fun f g=>qbe f g) c).bind fun a=>(K1 a.length c.length).bind fun _=>(qe5 a).bind fun d=>(K1 d.length a.length).bind fun _=>some (b,d)
noncomputable def qbg (d : Int) (c : Bool) (b : Int) (a : List qo) : Option (Bool × Int × List qo):=
  (cond (!c) (some true) (some (b == d))).bind fun f=>cond f (some (c,b,a)) ((cond (decide ((a.length : Int) > 0)) ((idx a (w64 ((a.length : Int) - 1))).bind fun g=>some (g.Hi == b)) (some false)).bind fun h=>cond h ((idx a (w64 ((a.length : Int) - 1))).bind fun j=>some (c,b,a.set (w64 ((a.length : Int) - 1)).toNat ({Lo:=j.Lo,Hi:=d} : qo))) ((app 16 a [({Lo:=b,Hi:=d} : qo)]).bind fun k=>some (c,b,k)))
noncomputable def q5o (f : List (List qo) × List qk) (g : Bool→Bool→Option Bool) (a : Int × List Int × Int × Bool × List qo) : Option ((Int × List Int × Int × Bool × List qo) ⊕ (List qo)):=
  cond (decide (a.1 < (f.2.length : Int))) ((idx f.2 a.1).bind fun b=>((qbg b.at_ a.2.2.2.1 a.2.2.1 a.2.2.2.2).bind fun h=>(idxA 2 a.2.1 b.list_).bind fun c=>(idxA 2 a.2.1 b.list_).bind fun _=>(idxA 2 (a.2.1.set b.list_.toNat (w64 (c + b.by_))) 0).bind fun j=>(idxA 2 (a.2.1.set b.list_.toNat (w64 (c + b.by_))) 1).bind fun k=>(g (decide (j > 0)) (decide (k > 0))).bind fun l=>some (a.2.1.set b.list_.toNat (w64 (c + b.by_)),l,h.2.2)).bind fun d=>some (.inl (w64 (a.1 + 1),d.1,b.at_,d.2.1,d.2.2))) (some (.inr a.2.2.2.2))
noncomputable def q8i (a : List qo) (b : List qo) (d : Bool→Bool→Option Bool) : Option (List qo):=
  (qbf [a,b]).bind fun c=>(K1 c.1.length [a,b].length).bind fun _=>((loop (q5o c d) (0,[0,0],0,false,[])).bind fun f=>some f).bind fun g=>some g
noncomputable def qbd (a : Bool) (b : Bool) : Option Bool:=
  some a
noncomputable def q8h (a : List qo) : Option (List qo × Int):=
  cond (decide ((a.length : Int) > 400)) (some ([],4)) ((qac a (fun b=>qeb b)).bind fun c=>cond c (some ([],8)) ((q8i a [] (fun b d=>qbd b d)).bind fun f=>some (f,0)))
noncomputable def qe2 (b : List qo) (f : List qo) (a : Int) : Option ((Int) ⊕ ((Unit) ⊕ (Bool))):=
  cond (decide (a < (b.length : Int))) ((idx b a).bind fun c=>(idx f a).bind fun d=>cond (!((c.Lo == d.Lo) && ((c.Hi == d.Hi) && true))) (some (.inr (.inr false))) (some (.inl (w64 (a + 1))))) (some (.inr (.inl ())))
noncomputable def q7e (a : List qo) (b : List qo) : Option Bool:=
  cond ((a.length : Int) != (b.length : Int)) (some false) ((loop (qe2 a b) 0 : Option ((Unit) ⊕ (Bool))).bind fun c=>(match c with | .inl _=>some true | .inr d=>some d))
noncomputable def q78 (c : Int) (a : Int × List ql) : Option ((Int × List ql) ⊕ (List ql)):=
  cond (decide (a.1 < (a.2.length : Int))) ((idx a.2 a.1).bind fun b=>some (.inl (w64 (a.1 + 1),a.2.set a.1.toNat ({X0:=b.X0,Y0:=b.Y0,X1:=c,Y1:=b.Y1} : ql)))) (some (.inr a.2))
noncomputable def q79 (b : List qo) (f : Int) (c : Int) (g : List ql) (a : Int × List ql) : Option ((Int × List ql) ⊕ (List qo × Int × Int × List ql)):=
  cond (decide (a.1 < (b.length : Int))) ((idx b a.1).bind fun d=>(app 32 a.2 [({X0:=f,Y0:=d.Lo,X1:=c,Y1:=d.Hi} : ql)]).bind fun h=>some (.inl (w64 (a.1 + 1),h))) (some (.inr (b,(g.length : Int),c,a.2)))
noncomputable def qa2 (a : List ql) (d : List qo) (f : Int) (h : Int) (g : Int) (b : Int) (c : List qo) : Option (List qo × Int × Int × List ql):=
  (cond (decide ((c.length : Int) > 0)) (some (h == g)) (some false)).bind fun j=>(cond j ((q7e d c).bind fun k=>some k) (some false)).bind fun l=>cond l ((loop (q78 b) (f,a)).bind fun m=>some (d,f,b,m)) ((loop (q79 c g b a) (0,a)).bind fun n=>some n)
noncomputable def q3d (b : List ql) (a : Int × List Int) : Option ((Int × List Int) ⊕ (List Int)):=
  cond (decide (a.1 < (b.length : Int))) ((idx b a.1).bind fun c=>(app 8 a.2 [c.X0,c.X1]).bind fun d=>some (.inl (w64 (a.1 + 1),d))) (some (.inr a.2))
noncomputable def q50 (c : List ql) (d : Int) (a : Int × List qo) : Option ((Int × List qo) ⊕ (List qo)):=
  cond (decide (a.1 < (c.length : Int))) (((idx c a.1).bind fun b=>(cond (decide (b.X0≤d)) (some (decide (d < b.X1))) (some false)).bind fun f=>cond f ((app 16 a.2 [({Lo:=b.Y0,Hi:=b.Y1} : qo)]).bind fun g=>some g) (some a.2)).bind fun h=>some (.inl (w64 (a.1 + 1),h))) (some (.inr a.2))
noncomputable def q3e (d : List Int) (g : List ql) (a : Int × List qo × Int × Int × List ql) : Option ((Int × List qo × Int × Int × List ql) ⊕ (List qo × Int × Int × List ql)):=
  cond (decide (a.1 < (d.length : Int))) ((idx d (w64 (a.1 - 1))).bind fun f=>(idx d a.1).bind fun h=>((idx [g] 0).bind fun j=>(loop (q50 j f) (0,[])).bind fun k=>some k).bind fun l=>((q8h l).bind fun m=>(qa2 a.2.2.2.2 a.2.1 a.2.2.1 a.2.2.2.1 f h m.1).bind fun b=>some (b.1,b.2.1,b.2.2.1,b.2.2.2)).bind fun c=>some (.inl (w64 (a.1 + 1),c.1,c.2.1,c.2.2.1,c.2.2.2))) (some (.inr (a.2.1,a.2.2.1,a.2.2.2.1,a.2.2.2.2)))
noncomputable def qa3 (d : List ql) : Option (List ql × Int):=
  (((idx [d] 0).bind fun j=>(loop (q3d j) (0,[])).bind fun b=>some b).bind fun f=>(q1e f).bind fun c=>(K1 c.length f.length).bind fun _=>(q3i c).bind fun a=>(K1 a.2.length c.length).bind fun _=>(q3y a.2.length a.1).bind fun _=>some ((a.2.drop a.1.1).take a.1.2)).bind fun k=>((loop (q3e k d) (1,[],0,0,[])).bind fun b=>some b).bind fun g=>(cond (decide ((g.2.2.2.length : Int) > 400)) (some (4,[])) (some (0,g.2.2.2))).bind fun h=>some (h.2,h.1)
noncomputable def q77 (a : List ql) : Option (List ql × Int):=
  cond (decide ((a.length : Int) > 400)) (some ([],4)) ((qab a (fun c=>q3b c)).bind fun d=>cond d (some ([],8)) ((qa3 a).bind fun b=>some (b.1,b.2)))
noncomputable def qe0 (d : List ql) (f : List ql) (a : Int) : Option ((Int) ⊕ ((Unit) ⊕ (Bool))):=
  cond (decide (a < (d.length : Int))) ((idx d a).bind fun b=>(idx f a).bind fun c=>cond (!((b.X0 == c.X0) && ((b.Y0 == c.Y0) && ((b.X1 == c.X1) && ((b.Y1 == c.Y1) && true))))) (some (.inr (.inr false))) (some (.inl (w64 (a + 1))))) (some (.inr (.inl ())))
noncomputable def qad (a : List ql) (b : List ql) : Option Bool:=
  cond ((a.length : Int) != (b.length : Int)) (some false) ((loop (qe0 a b) 0 : Option ((Unit) ⊕ (Bool))).bind fun c=>(match c with | .inl _=>some true | .inr d=>some d))
noncomputable def q8c (c : Int) (a : Int × List qf) : Option ((Int × List qf) ⊕ (List qf)):=
  cond (decide (a.1 < (a.2.length : Int))) ((idx a.2 a.1).bind fun b=>some (.inl (w64 (a.1 + 1),a.2.set a.1.toNat ({Lo:=b.Lo,Hi:=({X:=b.Hi.X,Y:=b.Hi.Y,Z:=c} : qh)} : qf)))) (some (.inr a.2))
noncomputable def q8d (c : List ql) (f : Int) (d : Int) (g : List qf) (a : Int × List qf) : Option ((Int × List qf) ⊕ (List ql × Int × Int × List qf)):=
  cond (decide (a.1 < (c.length : Int))) ((idx c a.1).bind fun b=>(app 48 a.2 [({Lo:=({X:=b.X0,Y:=b.Y0,Z:=f} : qh),Hi:=({X:=b.X1,Y:=b.Y1,Z:=d} : qh)} : qf)]).bind fun h=>some (.inl (w64 (a.1 + 1),h))) (some (.inr (c,(g.length : Int),d,a.2)))
noncomputable def qba (a : List qf) (d : List ql) (f : Int) (h : Int) (g : Int) (b : Int) (c : List ql) : Option (List ql × Int × Int × List qf):=
  (cond (decide ((c.length : Int) > 0)) (some (h == g)) (some false)).bind fun j=>(cond j ((qad d c).bind fun k=>some k) (some false)).bind fun l=>cond l ((loop (q8c b) (f,a)).bind fun m=>some (d,f,b,m)) ((loop (q8d c g b a) (0,a)).bind fun n=>some n)
noncomputable def q5i (b : List qf) (a : Int × List Int) : Option ((Int × List Int) ⊕ (List Int)):=
  cond (decide (a.1 < (b.length : Int))) ((idx b a.1).bind fun c=>(app 8 a.2 [c.Lo.Z,c.Hi.Z]).bind fun d=>some (.inl (w64 (a.1 + 1),d))) (some (.inr a.2))
noncomputable def q5k (c : List qf) (d : Int) (a : Int × List ql) : Option ((Int × List ql) ⊕ (List ql)):=
  cond (decide (a.1 < (c.length : Int))) (((idx c a.1).bind fun b=>(cond (decide (b.Lo.Z≤d)) (some (decide (d < b.Hi.Z))) (some false)).bind fun f=>cond f ((app 32 a.2 [({X0:=b.Lo.X,Y0:=b.Lo.Y,X1:=b.Hi.X,Y1:=b.Hi.Y} : ql)]).bind fun g=>some g) (some a.2)).bind fun h=>some (.inl (w64 (a.1 + 1),h))) (some (.inr a.2))
noncomputable def q5j (d : List Int) (h : List qf) (a : Int × List ql × Int × Int × List qf) : Option ((Int × List ql × Int × Int × List qf) ⊕ ((List ql × Int × Int × List qf) ⊕ (List qf × Int))):=
  cond (decide (a.1 < (d.length : Int))) ((idx d (w64 (a.1 - 1))).bind fun g=>(idx d a.1).bind fun j=>((idx [h] 0).bind fun k=>(loop (q5k k g) (0,[])).bind fun l=>some l).bind fun m=>((q77 m).bind fun f=>cond (f.2 != 0) (some (.inr ([],f.2))) ((qba a.2.2.2.2 a.2.1 a.2.2.1 a.2.2.2.1 g j f.1).bind fun b=>some (.inl (b.1,b.2.1,b.2.2.1,b.2.2.2))) : Option ((List ql × Int × Int × List qf) ⊕ (List qf × Int))).bind fun n=>(match n with | .inl c=>some (.inl (w64 (a.1 + 1),c.1,c.2.1,c.2.2.1,c.2.2.2)) | .inr o=>some (.inr (.inr o)))) (some (.inr (.inl (a.2.1,a.2.2.1,a.2.2.2.1,a.2.2.2.2))))
noncomputable def q8g (f : List qf) : Option (List qf × Int):=
  (((idx [f] 0).bind fun j=>(loop (q5i j) (0,[])).bind fun b=>some b).bind fun g=>(q1e g).bind fun c=>(K1 c.length g.length).bind fun _=>(q3i c).bind fun a=>(K1 a.2.length c.length).bind fun _=>(q3y a.2.length a.1).bind fun _=>some ((a.2.drop a.1.1).take a.1.2)).bind fun k=>((loop (q5j k f) (1,[],0,0,[]) : Option ((List ql × Int × Int × List qf) ⊕ (List qf × Int))).bind fun l=>(match l with | .inl b=>some (.inl b) | .inr d=>some (.inr d)) : Option ((List ql × Int × Int × List qf) ⊕ (List qf × Int))).bind fun m=>(match m with | .inl h=>cond (decide ((h.2.2.2.length : Int) > 400)) (some ([],4)) (some (h.2.2.2,0)) | .inr d=>some d)
noncomputable def qi1 (d : List qf) (f : List qf) (c : Int) : Option ((Int) ⊕ ((Unit) ⊕ (Bool))):=
  cond (decide (c < (d.length : Int))) ((idx d c).bind fun a=>(idx f c).bind fun b=>cond (!((a.Lo.X == b.Lo.X) && ((a.Lo.Y == b.Lo.Y) && ((a.Lo.Z == b.Lo.Z) && ((a.Hi.X == b.Hi.X) && ((a.Hi.Y == b.Hi.Y) && ((a.Hi.Z == b.Hi.Z) && true))))))) (some (.inr (.inr false))) (some (.inl (w64 (c + 1))))) (some (.inr (.inl ())))
noncomputable def qe1 (a : List qf) (b : List qf) : Option Bool:=
  cond ((a.length : Int) != (b.length : Int)) (some false) ((loop (qi1 a b) 0 : Option ((Unit) ⊕ (Bool))).bind fun c=>(match c with | .inl _=>some true | .inr d=>some d))
noncomputable def q3m (a : List qf) : Option Int:=
  cond (decide ((a.length : Int) > 400)) (some 4) ((Um a (fun c=>q3n c)).bind fun d=>cond d (some 8) ((q8g a).bind fun b=>(cond (b.2 != 0) (some true) ((qe1 b.1 a).bind fun f=>some (!f))).bind fun g=>cond g (some 8) (some 0)))
noncomputable def q3w (a : qh) (b : Int) : Option Bool:=
  (cond (decide ((min (min a.X a.Y) a.Z) ≥ (w64 (0 - b)))) (some (decide ((max (max a.X a.Y) a.Z)≤b))) (some false)).bind fun c=>some c
noncomputable def q8n (a : qf) : Option Bool:=
  (q3w a.Lo 30).bind fun b=>(cond (!b) (some true) ((q3w a.Hi 30).bind fun c=>some (!c))).bind fun d=>some d
noncomputable def q3v (b : List qf) (a : qh) : Option Int:=
  (q3m b).bind fun c=>cond (c != 0) (some c) ((Um b (fun d=>q8n d)).bind fun f=>cond f (some 16) ((q3w a 8).bind fun g=>(cond (!g) (some true) (some ((a.X == 0) && ((a.Y == 0) && ((a.Z == 0) && true))))).bind fun h=>cond h (some 2) (some 0)))
noncomputable def q8r : Option (qh × qh × qh × qh × qh × qh):=
  some (({X:=1,Y:=0,Z:=0} : qh),({X:=(-1),Y:=0,Z:=0} : qh),({X:=0,Y:=1,Z:=0} : qh),({X:=0,Y:=(-1),Z:=0} : qh),({X:=0,Y:=0,Z:=1} : qh),({X:=0,Y:=0,Z:=(-1)} : qh))
def Qs (x : qh) : List DV:=[.int .i64 x.X,.int .i64 x.Y,.int .i64 x.Z]
noncomputable def q5d (a : qf) (b : qh) : Option Bool:=
  (cond (decide (a.Lo.X≤b.X)) (some (decide (b.X < a.Hi.X))) (some false)).bind fun c=>(cond c (some (decide (a.Lo.Y≤b.Y))) (some false)).bind fun d=>(cond d (some (decide (b.Y < a.Hi.Y))) (some false)).bind fun f=>(cond f (some (decide (a.Lo.Z≤b.Z))) (some false)).bind fun g=>(cond g (some (decide (b.Z < a.Hi.Z))) (some false)).bind fun h=>some h
noncomputable def q5c (a : List qf) (b : qh) : Option Bool:=
  (Um a (fun c=>q5d c b)).bind fun d=>some d
noncomputable def q1k (a : qh) (b : qh) : Option qh:=
  some ({X:=w64 (a.X + b.X),Y:=w64 (a.Y + b.Y),Z:=w64 (a.Z + b.Z)} : qh)
structure Yw where
  p_ : qh
  d_ : qh
  deriving DecidableEq
structure Kx where
  num_ : Int
  den_ : Int
  deriving DecidableEq
noncomputable def q1i (a : qh) : Option (Int × Int × Int):=
  some (a.X,a.Y,a.Z)
noncomputable def q3x (a : Kx) (b : Kx) : Option Bool:=
  some (decide ((w64 (a.num_ * b.den_)) < (w64 (b.num_ * a.den_))))
noncomputable def q1j (h : (Int × Int × Int)) (j : (Int × Int × Int)) (c : (Int × Int × Int)) (k : (Int × Int × Int)) (a : Bool × Int × Int × Int × Int × Int) : Option ((Bool × Int × Int × Int × Int × Int) ⊕ ((Int × Int × Int × Int) ⊕ (Kx × Bool))):=
  cond (decide (a.2.1 < 3)) (((idxA 3 [h.1,h.2.1,h.2.2] a.2.1).bind fun f=>(idxA 3 [j.1,j.2.1,j.2.2] a.2.1).bind fun l=>(idxA 3 [c.1,c.2.1,c.2.2] a.2.1).bind fun m=>(idxA 3 [k.1,k.2.1,k.2.2] a.2.1).bind fun n=>(idxA 3 [c.1,c.2.1,c.2.2] a.2.1).bind fun o=>cond (f == 0) ((cond (decide ((w64 ((w64 (2 * l)) - m)) ≥ 0)) (some true) (some (decide ((w64 ((w64 (2 * n)) - o))≤0)))).bind fun p=>cond p (some (.inr (({num_:=0,den_:=0} : Kx),false))) (some (.inl (a.1,a.2.2.1,a.2.2.2.1,a.2.2.2.2.1,a.2.2.2.2.2)))) ((cond (decide (f < 0)) (some (w64 (0 - f),w64 (0 - (w64 ((w64 (2 * n)) - o))),w64 (0 - (w64 ((w64 (2 * l)) - m))))) (some (f,w64 ((w64 (2 * l)) - m),w64 ((w64 (2 * n)) - o)))).bind fun b=>(q3x ({num_:=a.2.2.1,den_:=a.2.2.2.1} : Kx) ({num_:=b.2.1,den_:=w64 (2 * b.1)} : Kx)).bind fun q=>(cond q (some (b.2.1,w64 (2 * b.1))) (some (a.2.2.1,a.2.2.2.1))).bind fun g=>(cond a.1 (some true) ((q3x ({num_:=b.2.2,den_:=w64 (2 * b.1)} : Kx) ({num_:=a.2.2.2.2.1,den_:=a.2.2.2.2.2} : Kx)).bind fun r=>some r)).bind fun s=>cond s (some (.inl (false,g.1,g.2,b.2.2,w64 (2 * b.1)))) (some (.inl (a.1,g.1,g.2,a.2.2.2.2.1,a.2.2.2.2.2)))) : Option ((Bool × Int × Int × Int × Int) ⊕ (Kx × Bool))).bind fun t=>(match t with | .inl d=>some (.inl (d.1,w64 (a.2.1 + 1),d.2.1,d.2.2.1,d.2.2.2.1,d.2.2.2.2)) | .inr u=>some (.inr (.inr u)))) (some (.inr (.inl (a.2.2.1,a.2.2.2.1,a.2.2.2.2.1,a.2.2.2.2.2))))
noncomputable def q8q (b : Yw) (c : qf) : Option (Kx × Bool):=
  (q1i b.p_).bind fun d=>(q1i c.Lo).bind fun f=>(q1i c.Hi).bind fun g=>(q1i b.d_).bind fun h=>(loop (q1j h f d g) (true,0,0,1,0,0) : Option ((Int × Int × Int × Int) ⊕ (Kx × Bool))).bind fun j=>(match j with | .inl a=>(q3x ({num_:=a.1,den_:=a.2.1} : Kx) ({num_:=a.2.2.1,den_:=a.2.2.2} : Kx)).bind fun k=>some (({num_:=a.1,den_:=a.2.1} : Kx),k) | .inr l=>some l)
noncomputable def q8p (a : qf) (b : Yw) : Option Bool:=
  (q8q b a).bind fun c=>some c.2
noncomputable def q5s (a : Yw) (b : List qf) : Option Bool:=
  (Um b (fun c=>q8p c a)).bind fun d=>some (!d)
noncomputable def q8o (d : List qf) (c : qh) (a : qh) (b : qh) : Option Bool:=
  cond (decide ((w64 ((w64 ((w64 (a.X * b.X)) + (w64 (a.Y * b.Y)))) + (w64 (a.Z * b.Z))))≤0)) (some false) ((q1k c c).bind fun f=>(q1k ({X:=1,Y:=1,Z:=1} : qh) a).bind fun g=>(q1k f g).bind fun h=>(q5s ({p_:=h,d_:=b} : Yw) d).bind fun j=>some j)
noncomputable def q3r (b : List qf) (c : qh) (d : Int) (f : qh) : Option (Bool × Int):=
  (q3v b f).bind fun g=>cond (g != 0) (some (false,g)) (cond (decide (d > 5)) (some (false,2)) (q8r.bind fun a=>(idxA 6 [a.1,a.2.1,a.2.2.1,a.2.2.2.1,a.2.2.2.2.1,a.2.2.2.2.2] d).bind fun h=>(q5c b c).bind fun j=>(cond (!j) (some true) ((q1k c h).bind fun k=>(q5c b k).bind fun l=>some l)).bind fun m=>cond m (some (false,6)) ((q8o b c h f).bind fun n=>some (n,0))))
noncomputable def q6w (a : qh) (b : Int) : Option Bool:=
  (cond (decide (a.X ≥ b)) (some (decide (a.Y ≥ b))) (some false)).bind fun c=>(cond c (some (decide (a.Z ≥ b))) (some false)).bind fun d=>(cond d (some (decide (a.X≤1000000))) (some false)).bind fun f=>(cond f (some (decide (a.Y≤1000000))) (some false)).bind fun g=>(cond g (some (decide (a.Z≤1000000))) (some false)).bind fun h=>some h
noncomputable def q9w (a : qf) : Option Bool:=
  (q6w a.Lo (-1000000)).bind fun b=>(cond b ((q6w a.Hi (-1000000)).bind fun c=>some c) (some false)).bind fun d=>(cond d (some (decide (a.Lo.X < a.Hi.X))) (some false)).bind fun f=>(cond f (some (decide (a.Lo.Y < a.Hi.Y))) (some false)).bind fun g=>(cond g (some (decide (a.Lo.Z < a.Hi.Z))) (some false)).bind fun h=>some h
noncomputable def q4o (b : Int × List Int) (c : List Int) (a : Int) : Option ((Int) ⊕ (Int)):=
  (cond (decide (a > 0)) ((idx b.2 (w64 (a - 1))).bind fun d=>(idx c b.1).bind fun f=>some (decide (d > f))) (some false)).bind fun g=>cond g (some (.inl (w64 (a - 1)))) (some (.inr a))
noncomputable def q4n (d : List Int) (a : Int × List Int) : Option ((Int × List Int) ⊕ (List Int)):=
  cond (decide (a.1 < (d.length : Int))) (((loop (q4o a d) (a.2.length : Int)).bind fun c=>(cond (decide (c > 0)) ((idx a.2 (w64 (c - 1))).bind fun h=>(idx d a.1).bind fun j=>some (h == j)) (some false)).bind fun k=>cond k (some a.2) ((app 8 a.2 [0]).bind fun b=>(sub2 b.length (w64 (c + 1)) b.length).bind fun g=>(sub2 b.length c b.length).bind fun f=>(idx d a.1).bind fun l=>(idx (cpyw b g ((b.drop f.1).take f.2)) c).bind fun _=>some ((cpyw b g ((b.drop f.1).take f.2)).set c.toNat l))).bind fun m=>some (.inl (w64 (a.1 + 1),m))) (some (.inr a.2))
noncomputable def U8 (a : List Int) : Option (List Int):=
  (loop (q4n a) (0,[])).bind fun b=>some b
noncomputable def q4w (b : List qf) (a : Int × List Int) : Option ((Int × List Int) ⊕ (List Int)):=
  cond (decide (a.1 < (b.length : Int))) ((idx b a.1).bind fun c=>(idx b a.1).bind fun d=>(app 8 a.2 [c.Lo.Z,d.Hi.Z]).bind fun f=>some (.inl (w64 (a.1 + 1),f))) (some (.inr a.2))
noncomputable def q4x (b : List qf) (a : Int × List Int) : Option ((Int × List Int) ⊕ (List Int)):=
  cond (decide (a.1 < (b.length : Int))) ((idx b a.1).bind fun c=>(idx b a.1).bind fun d=>(app 8 a.2 [c.Lo.Z,d.Hi.Z]).bind fun f=>some (.inl (w64 (a.1 + 1),f))) (some (.inr a.2))
noncomputable def q9v (a : List qf) (b : List qf) : Option (List Int):=
  (loop (q4w a) (0,[])).bind fun c=>(loop (q4x b) (0,c)).bind fun d=>(U8 d).bind fun f=>some f
noncomputable def q6x (b : List qf) (c : Int) (a : Int × List ql) : Option ((Int × List ql) ⊕ (List ql)):=
  cond (decide (a.1 < (b.length : Int))) (((idx b a.1).bind fun d=>(cond (decide (d.Lo.Z≤c)) ((idx b a.1).bind fun f=>some (decide (c < f.Hi.Z))) (some false)).bind fun g=>cond g ((idx b a.1).bind fun h=>(idx b a.1).bind fun j=>(idx b a.1).bind fun k=>(idx b a.1).bind fun l=>(app 32 a.2 [({X0:=h.Lo.X,Y0:=j.Lo.Y,X1:=k.Hi.X,Y1:=l.Hi.Y} : ql)]).bind fun m=>some m) (some a.2)).bind fun n=>some (.inl (w64 (a.1 + 1),n))) (some (.inr a.2))
noncomputable def U9 (a : List qf) (b : Int) : Option (List ql):=
  (loop (q6x a b) (0,[])).bind fun c=>some c
noncomputable def q4r (b : List ql) (a : Int × List Int) : Option ((Int × List Int) ⊕ (List Int)):=
  cond (decide (a.1 < (b.length : Int))) ((idx b a.1).bind fun c=>(idx b a.1).bind fun d=>(app 8 a.2 [c.X0,d.X1]).bind fun f=>some (.inl (w64 (a.1 + 1),f))) (some (.inr a.2))
noncomputable def q4s (b : List ql) (a : Int × List Int) : Option ((Int × List Int) ⊕ (List Int)):=
  cond (decide (a.1 < (b.length : Int))) ((idx b a.1).bind fun c=>(idx b a.1).bind fun d=>(app 8 a.2 [c.X0,d.X1]).bind fun f=>some (.inl (w64 (a.1 + 1),f))) (some (.inr a.2))
noncomputable def q9q (a : List ql) (b : List ql) : Option (List Int):=
  (loop (q4r a) (0,[])).bind fun c=>(loop (q4s b) (0,c)).bind fun d=>(U8 d).bind fun f=>some f
noncomputable def q4t (b : List ql) (a : Int × List Int) : Option ((Int × List Int) ⊕ (List Int)):=
  cond (decide (a.1 < (b.length : Int))) ((idx b a.1).bind fun c=>(idx b a.1).bind fun d=>(app 8 a.2 [c.Y0,d.Y1]).bind fun f=>some (.inl (w64 (a.1 + 1),f))) (some (.inr a.2))
noncomputable def q4u (b : List ql) (a : Int × List Int) : Option ((Int × List Int) ⊕ (List Int)):=
  cond (decide (a.1 < (b.length : Int))) ((idx b a.1).bind fun c=>(idx b a.1).bind fun d=>(app 8 a.2 [c.Y0,d.Y1]).bind fun f=>some (.inl (w64 (a.1 + 1),f))) (some (.inr a.2))
noncomputable def q9r (a : List ql) (b : List ql) : Option (List Int):=
  (loop (q4t a) (0,[])).bind fun c=>(loop (q4u b) (0,c)).bind fun d=>(U8 d).bind fun f=>some f
noncomputable def q38 (b : List ql) (c : Int) (d : Int) (a : Int) : Option ((Int) ⊕ ((Unit) ⊕ (Bool))):=
  cond (decide (a < (b.length : Int))) ((idx b a).bind fun f=>(cond (decide (f.X0≤c)) ((idx b a).bind fun g=>some (decide (c < g.X1))) (some false)).bind fun h=>(cond h ((idx b a).bind fun j=>some (decide (j.Y0≤d))) (some false)).bind fun k=>(cond k ((idx b a).bind fun l=>some (decide (d < l.Y1))) (some false)).bind fun m=>cond m (some (.inr (.inr true))) (some (.inl (w64 (a + 1))))) (some (.inr (.inl ())))
noncomputable def q6t (a : List ql) (b : Int) (c : Int) : Option Bool:=
  (loop (q38 a b c) 0 : Option ((Unit) ⊕ (Bool))).bind fun d=>(match d with | .inl _=>some false | .inr f=>some f)
noncomputable def q6r (c : Int) (a : Bool) (b : Bool) : Option Bool:=
  cond (c == 1) ((cond a (some b) (some false)).bind fun d=>some d) (cond (c == 2) ((cond a (some true) (some b)).bind fun f=>some f) ((cond a (some (!b)) (some false)).bind fun g=>some g))
noncomputable def q4m (b : List Int) (c : List Bool) (a : Int × List qo) : Option ((Int × List qo) ⊕ (List qo)):=
  cond (decide ((w64 (a.1 + 1)) < (b.length : Int))) (((idx c a.1).bind fun d=>cond (!d) (some a.2) ((cond (decide ((a.2.length : Int) > 0)) ((idx a.2 (w64 ((a.2.length : Int) - 1))).bind fun f=>(idx b a.1).bind fun g=>some (f.Hi == g)) (some false)).bind fun h=>cond h ((idx b (w64 (a.1 + 1))).bind fun j=>(idx a.2 (w64 ((a.2.length : Int) - 1))).bind fun k=>some (a.2.set (w64 ((a.2.length : Int) - 1)).toNat ({Lo:=k.Lo,Hi:=j} : qo))) ((idx b a.1).bind fun l=>(idx b (w64 (a.1 + 1))).bind fun m=>(app 16 a.2 [({Lo:=l,Hi:=m} : qo)]).bind fun n=>some n))).bind fun o=>some (.inl (w64 (a.1 + 1),o))) (some (.inr a.2))
noncomputable def q4l (a : List Int) (b : List Bool) : Option (List qo):=
  (loop (q4m a b) (0,[])).bind fun c=>some c
noncomputable def qdg (b : List qo) (f : List qo) (a : Int) : Option ((Int) ⊕ ((Unit) ⊕ (Bool))):=
  cond (decide (a < (b.length : Int))) ((idx b a).bind fun c=>(idx f a).bind fun d=>cond (!((c.Lo == d.Lo) && ((c.Hi == d.Hi) && true))) (some (.inr (.inr false))) (some (.inl (w64 (a + 1))))) (some (.inr (.inl ())))
noncomputable def q6s (a : List qo) (b : List qo) : Option Bool:=
  cond ((a.length : Int) != (b.length : Int)) (some false) ((loop (qdg a b) 0 : Option ((Unit) ⊕ (Bool))).bind fun c=>(match c with | .inl _=>some true | .inr d=>some d))
noncomputable def q4p (b : List Int) (c : List Int) (d : List qo × Int × Int × List ql) (f : List ql) (g : List ql) (h : Int) (a : Int × List Bool) : Option ((Int × List Bool) ⊕ (List Bool)):=
  cond (decide (a.1 < (b.length : Int))) ((idx c d.2.2.1).bind fun j=>(idx b a.1).bind fun k=>(q6t f j k).bind fun l=>(idx c d.2.2.1).bind fun m=>(idx b a.1).bind fun n=>(q6t g m n).bind fun o=>(q6r h l o).bind fun p=>(app 1 a.2 [p]).bind fun q=>some (.inl (w64 (a.1 + 1),q))) (some (.inr a.2))
noncomputable def q4q (c : List Int) (d : List qo × Int × Int × List ql) (a : Int × List ql) : Option ((Int × List ql) ⊕ (List ql)):=
  cond (decide (a.1 < (a.2.length : Int))) ((idx c (w64 (d.2.2.1 + 1))).bind fun f=>(idx a.2 a.1).bind fun b=>some (.inl (w64 (a.1 + 1),a.2.set a.1.toNat ({X0:=b.X0,Y0:=b.Y0,X1:=f,Y1:=b.Y1} : ql)))) (some (.inr a.2))
noncomputable def q6u (b : List qo) (d : List Int) (c : List qo × Int × Int × List ql) (a : Int × List ql) : Option ((Int × List ql) ⊕ (List qo × Int × List ql)):=
  cond (decide (a.1 < (b.length : Int))) ((idx d c.2.2.1).bind fun f=>(idx b a.1).bind fun g=>(idx d (w64 (c.2.2.1 + 1))).bind fun h=>(idx b a.1).bind fun j=>(app 32 a.2 [({X0:=f,Y0:=g.Lo,X1:=h,Y1:=j.Hi} : ql)]).bind fun k=>some (.inl (w64 (a.1 + 1),k))) (some (.inr (b,(c.2.2.2.length : Int),a.2)))
noncomputable def q39 (b : List Int) (d : List Int) (g : List ql) (h : List ql) (j : Int) (a : List qo × Int × Int × List ql) : Option ((List qo × Int × Int × List ql) ⊕ (List ql)):=
  cond (decide ((w64 (a.2.2.1 + 1)) < (b.length : Int))) (((loop (q4p d b a g h j) (0,[])).bind fun k=>(q4l d k).bind fun f=>(cond (decide (a.2.2.1 > 0)) ((q6s f a.1).bind fun l=>some l) (some false)).bind fun m=>cond m ((loop (q4q b a) (a.2.1,a.2.2.2)).bind fun n=>some (a.1,a.2.1,n)) ((loop (q6u f b a) (0,a.2.2.2)).bind fun o=>some o)).bind fun c=>some (.inl (c.1,c.2.1,w64 (a.2.2.1 + 1),c.2.2))) (some (.inr a.2.2.2))
noncomputable def Jp (c : Int) (a : List ql) (b : List ql) : Option (List ql):=
  (q9q a b).bind fun d=>(q9r a b).bind fun f=>(loop (q39 d f a b c) ([],0,0,[])).bind fun g=>some g
noncomputable def qdh (d : List ql) (f : List ql) (a : Int) : Option ((Int) ⊕ ((Unit) ⊕ (Bool))):=
  cond (decide (a < (d.length : Int))) ((idx d a).bind fun b=>(idx f a).bind fun c=>cond (!((b.X0 == c.X0) && ((b.Y0 == c.Y0) && ((b.X1 == c.X1) && ((b.Y1 == c.Y1) && true))))) (some (.inr (.inr false))) (some (.inl (w64 (a + 1))))) (some (.inr (.inl ())))
noncomputable def q3a (a : List ql) (b : List ql) : Option Bool:=
  cond ((a.length : Int) != (b.length : Int)) (some false) ((loop (qdh a b) 0 : Option ((Unit) ⊕ (Bool))).bind fun c=>(match c with | .inl _=>some true | .inr d=>some d))
noncomputable def q4z (c : List Int) (d : List ql × Int × Int × List qf) (a : Int × List qf) : Option ((Int × List qf) ⊕ (List qf)):=
  cond (decide (a.1 < (a.2.length : Int))) ((idx c (w64 (d.2.2.1 + 1))).bind fun f=>(idx a.2 a.1).bind fun b=>some (.inl (w64 (a.1 + 1),a.2.set a.1.toNat ({Lo:=b.Lo,Hi:=({X:=b.Hi.X,Y:=b.Hi.Y,Z:=f} : qh)} : qf)))) (some (.inr a.2))
noncomputable def q70 (b : List ql) (d : List Int) (c : List ql × Int × Int × List qf) (a : Int × List qf) : Option ((Int × List qf) ⊕ (List ql × Int × List qf)):=
  cond (decide (a.1 < (b.length : Int))) ((idx b a.1).bind fun f=>(idx b a.1).bind fun g=>(idx d c.2.2.1).bind fun h=>(idx b a.1).bind fun j=>(idx b a.1).bind fun k=>(idx d (w64 (c.2.2.1 + 1))).bind fun l=>(app 48 a.2 [({Lo:=({X:=f.X0,Y:=g.Y0,Z:=h} : qh),Hi:=({X:=j.X1,Y:=k.Y1,Z:=l} : qh)} : qf)]).bind fun m=>some (.inl (w64 (a.1 + 1),m))) (some (.inr (b,(c.2.2.2.length : Int),a.2)))
noncomputable def q27 (b : List Int) (f : List qf) (g : List qf) (h : Int) (a : List ql × Int × Int × List qf) : Option ((List ql × Int × Int × List qf) ⊕ ((List qf) ⊕ (List qf × Bool))):=
  cond (decide ((w64 (a.2.2.1 + 1)) < (b.length : Int))) (((idx b a.2.2.1).bind fun j=>(U9 f j).bind fun k=>(idx b a.2.2.1).bind fun l=>(U9 g l).bind fun m=>(Jp h k m).bind fun c=>(cond (decide ((c.length : Int) > 400)) (some true) ((idx b a.2.2.1).bind fun n=>(U9 f n).bind fun o=>(Jp 2 o []).bind fun p=>some (decide ((p.length : Int) > 400)))).bind fun q=>(cond q (some true) ((idx b a.2.2.1).bind fun r=>(U9 g r).bind fun s=>(Jp 2 s []).bind fun t=>some (decide ((t.length : Int) > 400)))).bind fun u=>cond u (some (.inr ([],false))) ((cond (decide (a.2.2.1 > 0)) ((q3a c a.1).bind fun v=>some v) (some false)).bind fun x=>cond x ((loop (q4z b a) (a.2.1,a.2.2.2)).bind fun y=>some (.inl (a.1,a.2.1,y))) ((loop (q70 c b a) (0,a.2.2.2)).bind fun z=>some (.inl z))) : Option ((List ql × Int × List qf) ⊕ (List qf × Bool))).bind fun aa=>(match aa with | .inl d=>some (.inl (d.1,d.2.1,w64 (a.2.2.1 + 1),d.2.2)) | .inr x1=>some (.inr (.inr x1)))) (some (.inr (.inl a.2.2.2)))
noncomputable def q4y (d : Int) (a : List qf) (b : List qf) : Option (List qf × Bool):=
  (q9v a b).bind fun f=>(loop (q27 f a b d) ([],0,0,[]) : Option ((List qf) ⊕ (List qf × Bool))).bind fun g=>(match g with | .inl c=>some (c,decide ((c.length : Int)≤400)) | .inr h=>some h)
noncomputable def qdp (d : List qf) (f : List qf) (c : Int) : Option ((Int) ⊕ ((Unit) ⊕ (Bool))):=
  cond (decide (c < (d.length : Int))) ((idx d c).bind fun a=>(idx f c).bind fun b=>cond (!((a.Lo.X == b.Lo.X) && ((a.Lo.Y == b.Lo.Y) && ((a.Lo.Z == b.Lo.Z) && ((a.Hi.X == b.Hi.X) && ((a.Hi.Y == b.Hi.Y) && ((a.Hi.Z == b.Hi.Z) && true))))))) (some (.inr (.inr false))) (some (.inl (w64 (c + 1))))) (some (.inr (.inl ())))
noncomputable def qdo (a : List qf) (b : List qf) : Option Bool:=
  cond ((a.length : Int) != (b.length : Int)) (some false) ((loop (qdp a b) 0 : Option ((Unit) ⊕ (Bool))).bind fun c=>(match c with | .inl _=>some true | .inr d=>some d))
noncomputable def q6z (b : List qf) (a : Int) : Option ((Int) ⊕ ((Unit) ⊕ (Int))):=
  cond (decide (a < (b.length : Int))) ((idx b a).bind fun c=>(q9w c).bind fun d=>cond (!d) (some (.inr (.inr 8))) (some (.inl (w64 (a + 1))))) (some (.inr (.inl ())))
noncomputable def q6y (a : List qf) : Option Int:=
  cond (decide ((a.length : Int) > 400)) (some 4) ((loop (q6z a) 0 : Option ((Unit) ⊕ (Int))).bind fun c=>(match c with | .inl _=>(q4y 2 a []).bind fun b=>(cond (!b.2) (some true) ((qdo b.1 a).bind fun d=>some (!d))).bind fun f=>cond f (some 8) (some 0) | .inr g=>some g))
noncomputable def q71 (b : List qf) (a : Int) : Option ((Int) ⊕ ((Unit) ⊕ (Int))):=
  cond (decide (a < (b.length : Int))) ((idx b a).bind fun c=>(q1d c.Lo 30).bind fun d=>(cond (!d) (some true) ((idx b a).bind fun f=>(q1d f.Hi 30).bind fun g=>some (!g))).bind fun h=>cond h (some (.inr (.inr 16))) (some (.inl (w64 (a + 1))))) (some (.inr (.inl ())))
noncomputable def q9x (b : List qf) (a : qh) : Option Int:=
  (q6y b).bind fun c=>cond (c != 0) ((q6y b).bind fun d=>some d) ((loop (q71 b) 0 : Option ((Unit) ⊕ (Int))).bind fun f=>(match f with | .inl _=>(q1d a 8).bind fun g=>(cond (!g) (some true) ((cond (a.X == 0) (some (a.Y == 0)) (some false)).bind fun h=>(cond h (some (a.Z == 0)) (some false)).bind fun j=>some j)).bind fun k=>cond k (some 2) (some 0) | .inr l=>some l))
noncomputable def q1c (a : Int) : Option qh:=
  (cond ((Int.tmod a 2) == 1) (some (-1)) (some 1)).bind fun b=>cond (decide (a < 2)) (some ({X:=b,Y:=0,Z:=0} : qh)) (cond (decide (a < 4)) (some ({X:=0,Y:=b,Z:=0} : qh)) (some ({X:=0,Y:=0,Z:=b} : qh)))
noncomputable def q25 (a : qh) (b : qh) : Option qh:=
  some ({X:=w64 (a.X + b.X),Y:=w64 (a.Y + b.Y),Z:=w64 (a.Z + b.Z)} : qh)
noncomputable def q26 (a : Int) (b : qh) : Option qh:=
  some ({X:=w64 (a * b.X),Y:=w64 (a * b.Y),Z:=w64 (a * b.Z)} : qh)
structure Yk where
  Num : Int
  Den : Int
  deriving DecidableEq
def qkj (x : Yk) : List DV:=[.int .i64 x.Num,.int .i64 x.Den]
noncomputable def qdi (a : qh) (b : Int) : Option Int:=
  cond (b == 0) (some a.X) (cond (b == 1) (some a.Y) (some a.Z))
noncomputable def q2k (b : (qh × qh × qh × qh × qh × qh)) (c : Int × Int × Int) (d : Int × Int × Int) (f : Int × Int × Int) (g : List qf) (k : qh) (a : Int × Int × Int) : Option ((Int × Int × Int) ⊕ (Int × Int)):=
  cond (decide (a.1 < 6)) (((idxA 6 [b.1,b.2.1,b.2.2.1,b.2.2.2.1,b.2.2.2.2.1,b.2.2.2.2.2] a.1).bind fun h=>(q1k ({X:=c.1,Y:=d.1,Z:=f.1} : qh) h).bind fun l=>(q5c g l).bind fun m=>cond m (some (a.2.1,a.2.2)) ((q8o g ({X:=c.1,Y:=d.1,Z:=f.1} : qh) h k).bind fun n=>cond n (some (w64 (a.2.1 + 1),a.2.2)) (some (a.2.1,w64 (a.2.2 + 1))))).bind fun j=>some (.inl (w64 (a.1 + 1),j.1,j.2))) (some (.inr (a.2.1,a.2.2)))
noncomputable def q2j (c : qf) (d : Int × Int × Int) (f : Int × Int × Int) (g : List qf) (h : qh) (a : Int × Int × Int) : Option ((Int × Int × Int) ⊕ (Int × Int)):=
  cond (decide (a.1 < c.Hi.Z)) ((q8r.bind fun j=>(loop (q2k j d f a g h) (0,a.2.1,a.2.2)).bind fun k=>some k).bind fun b=>some (.inl (w64 (a.1 + 1),b.1,b.2))) (some (.inr (a.2.1,a.2.2)))
noncomputable def q2i (b : qf) (d : Int × Int × Int) (f : List qf) (g : qh) (a : Int × Int × Int) : Option ((Int × Int × Int) ⊕ (Int × Int)):=
  cond (decide (a.1 < b.Hi.Y)) (((loop (q2j b d a f g) (b.Lo.Z,a.2.1,a.2.2)).bind fun h=>some h).bind fun c=>some (.inl (w64 (a.1 + 1),c.1,c.2))) (some (.inr (a.2.1,a.2.2)))
noncomputable def q2h (b : qf) (d : List qf) (f : qh) (a : Int × Int × Int) : Option ((Int × Int × Int) ⊕ (Int × Int)):=
  cond (decide (a.1 < b.Hi.X)) (((loop (q2i b a d f) (b.Lo.Y,a.2.1,a.2.2)).bind fun g=>some g).bind fun c=>some (.inl (w64 (a.1 + 1),c.1,c.2))) (some (.inr (a.2.1,a.2.2)))
noncomputable def q2g (b : List qf) (f : qh) (a : Int × Int × Int) : Option ((Int × Int × Int) ⊕ (Int × Int)):=
  cond (decide (a.1 < (b.length : Int))) (((idx b a.1).bind fun c=>(loop (q2h c b f) (c.Lo.X,a.2.1,a.2.2)).bind fun g=>some g).bind fun d=>some (.inl (w64 (a.1 + 1),d.1,d.2))) (some (.inr (a.2.1,a.2.2)))
noncomputable def q1g (a : List qf) (b : qh) : Option (Int × Int × Int):=
  (q3v a b).bind fun c=>cond (c != 0) (some (0,0,c)) ((some ()).bind fun _=>((loop (q2g a b) (0,0,0)).bind fun f=>some f).bind fun d=>some (d.1,d.2,0))
noncomputable def q5e (c : List qf) (a : Int × Int × Int × Int × Int × Int × Int) : Option ((Int × Int × Int × Int × Int × Int × Int) ⊕ (Int × Int × Int × Int × Int × Int)):=
  cond (decide (a.1 < (c.length : Int))) ((idx c a.1).bind fun b=>some (.inl (w64 (a.1 + 1),min a.2.1 b.Lo.X,min a.2.2.1 b.Lo.Y,min a.2.2.2.1 b.Lo.Z,max a.2.2.2.2.1 b.Hi.X,max a.2.2.2.2.2.1 b.Hi.Y,max a.2.2.2.2.2.2 b.Hi.Z))) (some (.inr (a.2.1,a.2.2.1,a.2.2.2.1,a.2.2.2.2.1,a.2.2.2.2.2.1,a.2.2.2.2.2.2)))
noncomputable def qb6 (c : List qf) : Option (qf × Int):=
  (q3m c).bind fun d=>cond (d != 0) (some (({Lo:=({X:=0,Y:=0,Z:=0} : qh),Hi:=({X:=0,Y:=0,Z:=0} : qh)} : qf),d)) (cond ((c.length : Int) == 0) (some (({Lo:=({X:=0,Y:=0,Z:=0} : qh),Hi:=({X:=0,Y:=0,Z:=0} : qh)} : qf),6)) ((idx c 0).bind fun a=>(loop (q5e c) (0,a.Lo.X,a.Lo.Y,a.Lo.Z,a.Hi.X,a.Hi.Y,a.Hi.Z)).bind fun b=>some (({Lo:=({X:=b.1,Y:=b.2.1,Z:=b.2.2.1} : qh),Hi:=({X:=b.2.2.2.1,Y:=b.2.2.2.2.1,Z:=b.2.2.2.2.2} : qh)} : qf),0)))
noncomputable def q8k (a : Int) (b : Int) (d : Int) (f : qf) (g : Int) (h : qh) : Option (Int × Int):=
  (qdc (w64 ((w64 (f.Hi.Z - g)) * d)) h.Z).bind fun c=>some (max (w64 ((min a (w64 (a - c))) - 2)) (-510),min (w64 ((max b (w64 (b - c))) + 2)) 510)
noncomputable def q3u (b : Int × Int) (c : Int × Int × List ql × List qo) (d : Int) (f : qh) (g : List qf) (a : Int × List qo) : Option ((Int × List qo) ⊕ (List qo)):=
  cond (decide (a.1 < b.2)) (((q5s ({p_:=({X:=w64 ((w64 (2 * c.2.1)) + 1),Y:=w64 ((w64 (2 * a.1)) + 1),Z:=w64 (2 * d)} : qh),d_:=f} : Yw) g).bind fun h=>cond h (some a.2) ((cond (decide ((a.2.length : Int) > 0)) ((idx a.2 (w64 ((a.2.length : Int) - 1))).bind fun j=>some (j.Hi == a.1)) (some false)).bind fun k=>cond k ((idx a.2 (w64 ((a.2.length : Int) - 1))).bind fun l=>(idx a.2 (w64 ((a.2.length : Int) - 1))).bind fun m=>some (a.2.set (w64 ((a.2.length : Int) - 1)).toNat ({Lo:=m.Lo,Hi:=w64 (l.Hi + 1)} : qo))) ((app 16 a.2 [({Lo:=a.1,Hi:=w64 (a.1 + 1)} : qo)]).bind fun n=>some n))).bind fun o=>some (.inl (w64 (a.1 + 1),o))) (some (.inr a.2))
noncomputable def q8l (c : List qo) (b : Int × Int × List ql × List qo) (a : Int × List ql) : Option ((Int × List ql) ⊕ (Int × List ql)):=
  cond (decide (a.1 < (c.length : Int))) ((idx c a.1).bind fun d=>(app 32 a.2 [({X0:=b.2.1,Y0:=d.Lo,X1:=b.2.1,Y1:=d.Hi} : ql)]).bind fun f=>some (.inl (w64 (a.1 + 1),f))) (some (.inr ((b.2.2.1.length : Int),a.2)))
noncomputable def q1h (c : Int × Int × List ql × List qo) (a : Int × List ql) : Option ((Int × List ql) ⊕ (List ql)):=
  cond (decide (a.1 < (a.2.length : Int))) ((idx a.2 a.1).bind fun b=>some (.inl (w64 (a.1 + 1),a.2.set a.1.toNat ({X0:=b.X0,Y0:=b.Y0,X1:=w64 (c.2.1 + 1),Y1:=b.Y1} : ql)))) (some (.inr a.2))
noncomputable def q3t (f : Int × Int) (d : Int × Int) (g : Int) (h : qh) (j : List qf) (a : Int × Int × List ql × List qo) : Option ((Int × Int × List ql × List qo) ⊕ (List ql)):=
  cond (decide (a.2.1 < f.2)) ((loop (q3u d a g h j) (d.1,[])).bind fun b=>(cond ((b.length : Int) == 0) (some true) (some (decide (a.2.1 < a.2.1)))).bind fun k=>(cond k (some true) ((q7e a.2.2.2 b).bind fun l=>some (!l))).bind fun m=>(cond m ((loop (q8l b a) (0,a.2.2.1)).bind fun n=>some n) (some (a.1,a.2.2.1))).bind fun c=>(loop (q1h a) (c.1,c.2)).bind fun o=>some (.inl (c.1,w64 (a.2.1 + 1),o,b))) (some (.inr a.2.2.1))
noncomputable def q3s (d : List qf) (c : Int) (b : qh) : Option (List ql × Int):=
  (q3v d b).bind fun f=>cond (f != 0) (some ([],f)) ((cond (decide (c < (-30))) (some true) (some (decide (c > 30)))).bind fun j=>(cond j (some true) (some (decide (b.Z≤0)))).bind fun k=>cond k (some ([],2)) ((qb6 d).bind fun a=>(cond (a.2 != 0) (some true) (some (decide (a.1.Hi.Z≤c)))).bind fun l=>cond l (some ([],0)) ((q8k a.1.Lo.X a.1.Hi.X b.X a.1 c b).bind fun g=>(q8k a.1.Lo.Y a.1.Hi.Y b.Y a.1 c b).bind fun m=>(loop (q3t g m c b d) (0,g.1,[],[])).bind fun h=>cond (decide ((h.length : Int) > 400)) (some ([],4)) (some (h,0)))))
noncomputable def qen (b : (Int × Int × Int)) (c : (Int × Int × Int)) (a : Int) : Option ((Int) ⊕ ((Unit) ⊕ (Bool))):=
  cond (decide (a < 3)) ((idxA 3 [b.1,b.2.1,b.2.2] a).bind fun d=>(cond (d == 0) ((idxA 3 [c.1,c.2.1,c.2.2] a).bind fun f=>some ((Int.tmod f 2) == 0)) (some false)).bind fun g=>cond g (some (.inr (.inr false))) (some (.inl (w64 (a + 1))))) (some (.inr (.inl ())))
noncomputable def qbp (a : Yw) : Option Bool:=
  (q1i a.p_).bind fun b=>(q1i a.d_).bind fun c=>(loop (qen c b) 0 : Option ((Unit) ⊕ (Bool))).bind fun d=>(match d with | .inl _=>(q3w a.p_ 240).bind fun f=>some f | .inr g=>some g)
noncomputable def qdq (b : qh) (c : qh) (a : Int) : Option ((Int) ⊕ ((Unit) ⊕ (Bool))):=
  cond (decide (a < 3)) ((qdi b a).bind fun d=>(cond (d == 0) ((qdi c a).bind fun f=>some ((Int.tmod f 2) == 0)) (some false)).bind fun g=>cond g (some (.inr (.inr false))) (some (.inl (w64 (a + 1))))) (some (.inr (.inl ())))
noncomputable def q9y (a : qh) (b : qh) : Option Bool:=
  (loop (qdq b a) 0 : Option ((Unit) ⊕ (Bool))).bind fun c=>(match c with | .inl _=>(q1d a 240).bind fun d=>some d | .inr f=>some f)
noncomputable def q75 (a : Int) : Option Int:=
  cond (decide (a < 0)) (some (IntKind.wrap .u64 (0 - (IntKind.wrap .u64 a)))) (some (IntKind.wrap .u64 a))
noncomputable def q74 (a : Int × Int) : Option ((Int × Int) ⊕ (Int)):=
  cond (a.2 != 0) ((remK a.1 a.2).bind fun b=>some (.inl (a.2,b))) (some (.inr a.1))
noncomputable def qa1 (a : Int) (b : Int) : Option Int:=
  (loop q74 (a,b)).bind fun c=>some c
noncomputable def qa0 (c : Int) (a : Int) : Option (Yk × Int):=
  cond (a == 0) (some (({Num:=0,Den:=0} : Yk),18)) ((q75 c).bind fun d=>(q75 a).bind fun f=>(qa1 d f).bind fun g=>(quoK .u64 d g).bind fun b=>(quoK .u64 f g).bind fun h=>(cond (decide (b > 1000000000)) (some true) (some (decide (h > 1000000000)))).bind fun j=>cond j (some (({Num:=0,Den:=0} : Yk),16)) ((cond (!((decide (c < 0)) == (decide (a < 0)))) (some (w64 (0 - (w64 b)))) (some (w64 b))).bind fun k=>some (({Num:=k,Den:=w64 h} : Yk),0)))
noncomputable def q2l (d : List qf) (f : qh) (g : qh) (a : Bool × Int × Int × Int) : Option ((Bool × Int × Int × Int) ⊕ (Bool × Int × Int)):=
  cond (decide (a.2.1 < (d.length : Int))) (((idx d a.2.1).bind fun h=>(q8q ({p_:=f,d_:=g} : Yw) h).bind fun b=>(cond b.2 ((cond (!a.1) (some true) ((q3x b.1 ({num_:=a.2.2.1,den_:=a.2.2.2} : Kx)).bind fun j=>some j)).bind fun k=>some k) (some false)).bind fun l=>cond l (some (true,b.1.num_,b.1.den_)) (some (a.1,a.2.2.1,a.2.2.2))).bind fun c=>some (.inl (c.1,w64 (a.2.1 + 1),c.2.1,c.2.2))) (some (.inr (a.1,a.2.2.1,a.2.2.2)))
noncomputable def q3q (c : List qf) (d : qh) (a : qh) : Option (Yk × Int):=
  (q3v c a).bind fun f=>cond (f != 0) (some (({Num:=0,Den:=0} : Yk),f)) ((qbp ({p_:=d,d_:=a} : Yw)).bind fun h=>cond (!h) (some (({Num:=0,Den:=0} : Yk),2)) ((loop (q2l c d a) (false,0,0,0)).bind fun b=>cond (!b.1) (some (({Num:=0,Den:=0} : Yk),6)) ((qa0 b.2.1 b.2.2).bind fun g=>some (g.1,g.2))))
noncomputable def q6h (a : Int) (b : Int) (c : Int) (d : Int) (f : Int) (g : Int) : Option qf:=
  some ({Lo:=({X:=a,Y:=b,Z:=c} : qh),Hi:=({X:=d,Y:=f,Z:=g} : qh)} : qf)
noncomputable def q18 (a : Int) (b : Int) (c : Int) : Option qh:=
  some ({X:=a,Y:=b,Z:=c} : qh)
noncomputable def q9g (a : Int) (b : Int) (c : Int) (d : Int) : Option (List ql):=
  some [({X0:=a,Y0:=b,X1:=c,Y1:=d} : ql)]
noncomputable def q6g : Option Bool:=
  (q6h 0 0 0 1 1 1).bind fun a=>(q18 (-3) 1 1).bind fun j=>(q18 1 0 0).bind fun k=>(q3q [a] j k).bind fun b=>(q18 1 0 1).bind fun l=>(q1g [a] l).bind fun c=>(q18 1 0 1).bind fun m=>(q3r [a] ({X:=0,Y:=0,Z:=0} : qh) 0 m).bind fun d=>(q18 1 0 1).bind fun n=>(q3r [a] ({X:=0,Y:=0,Z:=0} : qh) 4 n).bind fun f=>(q18 0 0 1).bind fun o=>(q3s [a] 0 o).bind fun g=>(q6h 0 0 1 1 1 2).bind fun p=>(q18 1 0 1).bind fun q=>(q3s [p] 0 q).bind fun h=>(cond (b.2 == 0) (some ((b.1.Num == 3) && ((b.1.Den == 2) && true))) (some false)).bind fun r=>(cond r (some (c.2.2 == 0)) (some false)).bind fun s=>(cond s (some (c.1 == 2)) (some false)).bind fun t=>(cond t (some (c.2.1 == 4)) (some false)).bind fun u=>(cond u (some (d.2 == 0)) (some false)).bind fun v=>(cond v (some d.1) (some false)).bind fun x=>(cond x (some (f.2 == 0)) (some false)).bind fun y=>(cond y (some f.1) (some false)).bind fun z=>(cond z (some (g.2 == 0)) (some false)).bind fun aa=>(cond aa ((q9g 0 0 1 1).bind fun ab=>(q3a g.1 ab).bind fun ac=>some ac) (some false)).bind fun ad=>(cond ad (some (h.2 == 0)) (some false)).bind fun ae=>(cond ae ((q9g (-2) 0 0 1).bind fun af=>(q3a h.1 af).bind fun ag=>some ag) (some false)).bind fun ah=>some ah
noncomputable def q6i (a : List qf) (b : qh) : Option Bool:=
  (cond (decide ((a.length : Int)≤6)) ((q9z a).bind fun c=>some c) (some false)).bind fun d=>(cond d ((q9x a b).bind fun f=>some (f == 0)) (some false)).bind fun g=>some g
noncomputable def qe9 (a : qf) : Option (Int × Int × Int):=
  some (w64 (a.Hi.X - a.Lo.X),w64 (a.Hi.Y - a.Lo.Y),w64 (a.Hi.Z - a.Lo.Z))
noncomputable def qbb (a : qf) (b : qf) : Option Int:=
  (cond ((w64 ((min a.Hi.X b.Hi.X) - (max a.Lo.X b.Lo.X))) == 0) (some (decide ((w64 ((min a.Hi.Y b.Hi.Y) - (max a.Lo.Y b.Lo.Y))) > 0))) (some false)).bind fun c=>(cond c (some (decide ((w64 ((min a.Hi.Z b.Hi.Z) - (max a.Lo.Z b.Lo.Z))) > 0))) (some false)).bind fun d=>cond d (some (w64 ((w64 ((min a.Hi.Y b.Hi.Y) - (max a.Lo.Y b.Lo.Y))) * (w64 ((min a.Hi.Z b.Hi.Z) - (max a.Lo.Z b.Lo.Z)))))) ((cond (decide ((w64 ((min a.Hi.X b.Hi.X) - (max a.Lo.X b.Lo.X))) > 0)) (some ((w64 ((min a.Hi.Y b.Hi.Y) - (max a.Lo.Y b.Lo.Y))) == 0)) (some false)).bind fun f=>(cond f (some (decide ((w64 ((min a.Hi.Z b.Hi.Z) - (max a.Lo.Z b.Lo.Z))) > 0))) (some false)).bind fun g=>cond g (some (w64 ((w64 ((min a.Hi.X b.Hi.X) - (max a.Lo.X b.Lo.X))) * (w64 ((min a.Hi.Z b.Hi.Z) - (max a.Lo.Z b.Lo.Z)))))) ((cond (decide ((w64 ((min a.Hi.X b.Hi.X) - (max a.Lo.X b.Lo.X))) > 0)) (some (decide ((w64 ((min a.Hi.Y b.Hi.Y) - (max a.Lo.Y b.Lo.Y))) > 0))) (some false)).bind fun h=>(cond h (some ((w64 ((min a.Hi.Z b.Hi.Z) - (max a.Lo.Z b.Lo.Z))) == 0)) (some false)).bind fun j=>cond j (some (w64 ((w64 ((min a.Hi.X b.Hi.X) - (max a.Lo.X b.Lo.X))) * (w64 ((min a.Hi.Y b.Hi.Y) - (max a.Lo.Y b.Lo.Y)))))) (some 0)))
noncomputable def q5h (b : List qf) (c : qf) (a : Int × Int) : Option ((Int × Int) ⊕ (Int)):=
  cond (decide (a.2 < (b.length : Int))) ((idx b a.2).bind fun d=>(qbb c d).bind fun f=>some (.inl (w64 (a.1 - (w64 (2 * f))),w64 (a.2 + 1)))) (some (.inr a.1))
noncomputable def q5g (c : List qf) (a : Int × Int) : Option ((Int × Int) ⊕ (Int)):=
  cond (decide (a.2 < (c.length : Int))) (((idx c a.2).bind fun d=>(qe9 d).bind fun b=>(slc c 0 a.2).bind fun f=>(loop (q5h f d) (w64 (a.1 + (w64 (2 * (w64 ((w64 ((w64 (b.1 * b.2.1)) + (w64 (b.1 * b.2.2)))) + (w64 (b.2.1 * b.2.2))))))),0)).bind fun g=>some g).bind fun h=>some (.inl (h,w64 (a.2 + 1)))) (some (.inr a.1))
noncomputable def qb9 (a : List qf) : Option (Int × Int):=
  (q3m a).bind fun b=>cond (b != 0) (some (0,b)) ((loop (q5g a) (0,0)).bind fun c=>some (c,0))
noncomputable def qcz (a : List qf) (b : qh) : Option Bool:=
  q6g.bind fun d=>(q6i a b).bind fun q=>(cond (!q) (some true) (some (!d))).bind fun r=>cond r (some d) ((q1g a b).bind fun c=>(q26 (-1) b).bind fun s=>(q1g a s).bind fun g=>(qb9 a).bind fun f=>(cond (c.2.2 != 0) (some true) (some (g.2.2 != 0))).bind fun t=>(cond t (some true) (some (f.2 != 0))).bind fun u=>(cond u (some true) (some ((w64 (c.1 + c.2.1)) != f.1))).bind fun v=>(cond v (some true) (some (decide ((w64 (c.1 + g.1)) > f.1)))).bind fun x=>cond x (some false) (cond ((a.length : Int) != 1) (some d) ((idx a 0).bind fun h=>(idx a 0).bind fun j=>(idx a 0).bind fun k=>(idx a 0).bind fun l=>(idx a 0).bind fun m=>(idx a 0).bind fun n=>(cond (b.X != 0) (some (w64 (0 + (w64 ((w64 (k.Hi.Y - l.Lo.Y)) * (w64 (m.Hi.Z - n.Lo.Z))))))) (some 0)).bind fun o=>(cond (b.Y != 0) (some (w64 (o + (w64 ((w64 (h.Hi.X - j.Lo.X)) * (w64 (m.Hi.Z - n.Lo.Z))))))) (some o)).bind fun p=>(cond (b.Z != 0) (some (w64 (p + (w64 ((w64 (h.Hi.X - j.Lo.X)) * (w64 (k.Hi.Y - l.Lo.Y))))))) (some p)).bind fun y=>(cond d (some (c.1 == y)) (some false)).bind fun z=>some z)))
noncomputable def q5m (b : List qo) (a : Int) : Option ((Int) ⊕ ((Unit) ⊕ (Int))):=
  cond (decide (a < (b.length : Int))) ((idx b a).bind fun c=>(q3p c).bind fun d=>(cond (!d) (some true) ((cond (decide (a > 0)) ((idx b (w64 (a - 1))).bind fun f=>some (decide (f.Hi ≥ c.Lo))) (some false)).bind fun g=>some g)).bind fun h=>cond h (some (.inr (.inr 8))) (some (.inl (w64 (a + 1))))) (some (.inr (.inl ())))
noncomputable def qea (a : List qo) : Option Int:=
  cond (decide ((a.length : Int) > 400)) (some 4) ((loop (q5m a) 0 : Option ((Unit) ⊕ (Int))).bind fun b=>(match b with | .inl _=>some 0 | .inr c=>some c))
structure Kv where
  Turn : Int
  At : qh
  deriving DecidableEq
noncomputable def q4b (a : qh) (b : Int) : Option Bool:=
  (cond (decide ((min (min a.X a.Y) a.Z) ≥ b)) (some (decide ((max (max a.X a.Y) a.Z)≤1000000))) (some false)).bind fun c=>some c
noncomputable def q6a (a : Kv) : Option Int:=
  (cond (decide (a.Turn ≥ 24)) (some true) ((q4b a.At (-1000000)).bind fun b=>some (!b))).bind fun c=>cond c (some 8) (some 0)
noncomputable def qcp (a : Int) : Option qh:=
  cond ((IntKind.wrap .u8 (Int.tdiv a 2)) == 0) (some ({X:=w64 (1 - (w64 (2 * (w64 (Int.tmod a 2))))),Y:=0,Z:=0} : qh)) (cond ((IntKind.wrap .u8 (Int.tdiv a 2)) == 1) (some ({X:=0,Y:=w64 (1 - (w64 (2 * (w64 (Int.tmod a 2))))),Z:=0} : qh)) (some ({X:=0,Y:=0,Z:=w64 (1 - (w64 (2 * (w64 (Int.tmod a 2)))))} : qh)))
noncomputable def qfy (a : qh) (b : qh) : Option qh:=
  some ({X:=w64 ((w64 (a.Y * b.Z)) - (w64 (a.Z * b.Y))),Y:=w64 ((w64 (a.Z * b.X)) - (w64 (a.X * b.Z))),Z:=w64 ((w64 (a.X * b.Y)) - (w64 (a.Y * b.X)))} : qh)
noncomputable def q9b (a : Int) : Option (qh × qh × qh):=
  (cond (decide ((Int.tmod a 4) ≥ (IntKind.wrap .u8 ((IntKind.wrap .u8 (Int.tdiv (IntKind.wrap .u8 (Int.tdiv a 4)) 2)) * 2)))) (some (IntKind.wrap .u8 ((Int.tmod a 4) + 2))) (some (Int.tmod a 4))).bind fun d=>(qcp (IntKind.wrap .u8 (Int.tdiv a 4))).bind fun b=>(qcp d).bind fun c=>(qfy b c).bind fun f=>some (b,c,f)
noncomputable def q9d (a : qh × qh × qh) (b : qh) : Option qh:=
  some ({X:=w64 ((w64 ((w64 (b.X * a.1.X)) + (w64 (b.Y * a.2.1.X)))) + (w64 (b.Z * a.2.2.X))),Y:=w64 ((w64 ((w64 (b.X * a.1.Y)) + (w64 (b.Y * a.2.1.Y)))) + (w64 (b.Z * a.2.2.Y))),Z:=w64 ((w64 ((w64 (b.X * a.1.Z)) + (w64 (b.Y * a.2.1.Z)))) + (w64 (b.Z * a.2.2.Z)))} : qh)
noncomputable def q9c (a : Kv) (c : qh) : Option qh:=
  (q9b a.Turn).bind fun d=>(q9d d c).bind fun b=>some ({X:=w64 (b.X + a.At.X),Y:=w64 (b.Y + a.At.Y),Z:=w64 (b.Z + a.At.Z)} : qh)
noncomputable def q69 (a : Kv) (b : qh) : Option (qh × Int):=
  (q6a a).bind fun c=>cond (c != 0) (some (({X:=0,Y:=0,Z:=0} : qh),c)) ((q4b b (-1000000)).bind fun f=>cond (!f) (some (({X:=0,Y:=0,Z:=0} : qh),2)) ((q9c a b).bind fun d=>(q4b d (-1000000)).bind fun g=>cond (!g) (some (({X:=0,Y:=0,Z:=0} : qh),16)) (some (d,0))))
noncomputable def q52 (b : List qf) (c : qf→Option Bool) (a : Int) : Option ((Int) ⊕ ((Unit) ⊕ (Int))):=
  cond (decide (a < (b.length : Int))) ((idx b a).bind fun d=>(c d).bind fun f=>cond f (some (.inr (.inr a))) (some (.inl (w64 (a + 1))))) (some (.inr (.inl ())))
noncomputable def qe3 (a : List qf) (b : qf→Option Bool) : Option Int:=
  (loop (q52 a b) 0 : Option ((Unit) ⊕ (Int))).bind fun c=>(match c with | .inl _=>some (-1) | .inr d=>some d)
noncomputable def qaa (a : List qf) (b : qf→Option Bool) : Option Bool:=
  (qe3 a b).bind fun c=>some (decide (c ≥ 0))
noncomputable def q3o (a : qf) : Option Bool:=
  (q8f a).bind fun b=>some (!b)
noncomputable def qb7 (a : List qf) : Option (List qf × Int):=
  cond (decide ((a.length : Int) > 400)) (some ([],4)) ((qaa a (fun c=>q3o c)).bind fun d=>cond d (some ([],8)) ((q8g a).bind fun b=>some (b.1,b.2)))
noncomputable def q5f (d : List qf) (f : Kv) (c : Int × List qf) : Option ((Int × List qf) ⊕ ((List qf) ⊕ (List qf × Int))):=
  cond (decide (c.1 < (d.length : Int))) ((idx d c.1).bind fun g=>(q69 f g.Lo).bind fun a=>(q69 f g.Hi).bind fun b=>(cond (a.2 != 0) (some true) (some (b.2 != 0))).bind fun h=>cond h (some (.inr (.inr ([],16)))) ((app 48 c.2 [({Lo:=({X:=min a.1.X b.1.X,Y:=min a.1.Y b.1.Y,Z:=min a.1.Z b.1.Z} : qh),Hi:=({X:=max a.1.X b.1.X,Y:=max a.1.Y b.1.Y,Z:=max a.1.Z b.1.Z} : qh)} : qf)]).bind fun j=>some (.inl (w64 (c.1 + 1),j)))) (some (.inr (.inl c.2)))
noncomputable def qb8 (a : List qf) (b : Kv) : Option (List qf × Int):=
  (q3m a).bind fun c=>cond (c != 0) (some ([],c)) ((q6a b).bind fun d=>cond (d != 0) (some ([],d)) ((loop (q5f a b) (0,[]) : Option ((List qf) ⊕ (List qf × Int))).bind fun g=>(match g with | .inl h=>(qb7 h).bind fun f=>some (f.1,f.2) | .inr j=>some j)))
noncomputable def qdj (a : qh) (b : qh) : Option qh:=
  some ({X:=w64 ((w64 (a.Y * b.Z)) - (w64 (a.Z * b.Y))),Y:=w64 ((w64 (a.Z * b.X)) - (w64 (a.X * b.Z))),Z:=w64 ((w64 (a.X * b.Y)) - (w64 (a.Y * b.X)))} : qh)
noncomputable def q9t (b : Int) (a : Int × List Int) : Option ((Int × List Int) ⊕ (List Int)):=
  cond (decide (a.1 < 6)) ((cond ((w64 (Int.tdiv a.1 2)) != (w64 (Int.tdiv (w64 (Int.tdiv b 4)) 2))) ((app 8 a.2 [a.1]).bind fun c=>some c) (some a.2)).bind fun d=>some (.inl (w64 (a.1 + 1),d))) (some (.inr a.2))
noncomputable def q9s (a : Int) : Option (qh × qh × qh):=
  (loop (q9t a) (0,[])).bind fun c=>(idx c (Int.tmod a 4)).bind fun b=>(q1c (w64 (Int.tdiv a 4))).bind fun d=>(q1c b).bind fun f=>(q1c (w64 (Int.tdiv a 4))).bind fun g=>(q1c b).bind fun h=>(qdj g h).bind fun j=>some (d,f,j)
noncomputable def q9u (a : qh × qh × qh) (b : qh) : Option qh:=
  (q26 b.X a.1).bind fun c=>(q26 b.Y a.2.1).bind fun d=>(q26 b.Z a.2.2).bind fun f=>(q25 d f).bind fun g=>(q25 c g).bind fun h=>some h
noncomputable def q4v (a : Kv) (b : qh) : Option qh:=
  (q9s (w64 a.Turn)).bind fun c=>(q9u c b).bind fun d=>(q25 d a.At).bind fun f=>some f
noncomputable def qd0 (b : List qf) (g : qh) (a : qh) (c : Int) : Option Bool:=
  q6g.bind fun d=>(q6i b a).bind fun n=>(cond (!n) (some true) ((q9y g a).bind fun o=>some (!o))).bind fun p=>(cond p (some true) (some (decide (c ≥ 24)))).bind fun q=>(cond q (some true) (some (!d))).bind fun r=>cond r (some d) ((qb8 b ({Turn:=c,At:=({X:=0,Y:=0,Z:=0} : qh)} : Kv)).bind fun f=>cond (f.2 != 0) ((cond d (some (f.2 == 4)) (some false)).bind fun s=>some s) ((q4v ({Turn:=c,At:=({X:=0,Y:=0,Z:=0} : qh)} : Kv) g).bind fun t=>(q4v ({Turn:=c,At:=({X:=0,Y:=0,Z:=0} : qh)} : Kv) a).bind fun m=>(q3q b g a).bind fun h=>(q3q f.1 t m).bind fun j=>(q1g b a).bind fun k=>(q1g f.1 m).bind fun l=>(cond d (some (h.2 == j.2)) (some false)).bind fun u=>(cond u (some ((h.1.Num == j.1.Num) && ((h.1.Den == j.1.Den) && true))) (some false)).bind fun v=>(cond v (some (k.2.2 == 0)) (some false)).bind fun x=>(cond x (some (l.2.2 == 0)) (some false)).bind fun y=>(cond y (some (k.1 == l.1)) (some false)).bind fun z=>(cond z (some (k.2.1 == l.2.1)) (some false)).bind fun aa=>some aa))
noncomputable def qo7 (a : qo) : Option Bool:=
  (cond (decide (a.Lo < a.Hi)) (some (decide (a.Lo ≥ (-1000000)))) (some false)).bind fun b=>(cond b (some (decide (a.Hi≤1000000))) (some false)).bind fun c=>some c
noncomputable def qhb (b : List qo) (a : Int) : Option ((Int) ⊕ ((Unit) ⊕ (Int))):=
  cond (decide (a < (b.length : Int))) ((idx b a).bind fun c=>(qo7 c).bind fun d=>(cond (!d) (some true) ((cond (decide (a > 0)) ((idx b (w64 (a - 1))).bind fun f=>(idx b a).bind fun g=>some (decide (f.Hi ≥ g.Lo))) (some false)).bind fun h=>some h)).bind fun j=>cond j (some (.inr (.inr 8))) (some (.inl (w64 (a + 1))))) (some (.inr (.inl ())))
noncomputable def qdd (a : List qo) : Option Int:=
  cond (decide ((a.length : Int) > 400)) (some 4) ((loop (qhb a) 0 : Option ((Unit) ⊕ (Int))).bind fun b=>(match b with | .inl _=>some 0 | .inr c=>some c))
noncomputable def q9m (b : List qo) (a : Int × List Int) : Option ((Int × List Int) ⊕ (List Int)):=
  cond (decide (a.1 < (b.length : Int))) ((idx b a.1).bind fun c=>(idx b a.1).bind fun d=>(app 8 a.2 [c.Lo,d.Hi]).bind fun f=>some (.inl (w64 (a.1 + 1),f))) (some (.inr a.2))
noncomputable def qo4 (b : List qo) (a : Int × List Int) : Option ((Int × List Int) ⊕ (List Int)):=
  cond (decide (a.1 < (b.length : Int))) ((idx b a.1).bind fun c=>(idx b a.1).bind fun d=>(app 8 a.2 [c.Lo,d.Hi]).bind fun f=>some (.inl (w64 (a.1 + 1),f))) (some (.inr a.2))
noncomputable def qhc (a : List qo) (b : List qo) : Option (List Int):=
  (loop (q9m a) (0,[])).bind fun c=>(loop (qo4 b) (0,c)).bind fun d=>(U8 d).bind fun f=>some f
noncomputable def q9n (b : List qo) (c : Int) (a : Int) : Option ((Int) ⊕ ((Unit) ⊕ (Bool))):=
  cond (decide (a < (b.length : Int))) ((idx b a).bind fun d=>(cond (decide (d.Lo≤c)) ((idx b a).bind fun f=>some (decide (c < f.Hi))) (some false)).bind fun g=>cond g (some (.inr (.inr true))) (some (.inl (w64 (a + 1))))) (some (.inr (.inl ())))
noncomputable def qde (a : List qo) (b : Int) : Option Bool:=
  (loop (q9n a b) 0 : Option ((Unit) ⊕ (Bool))).bind fun c=>(match c with | .inl _=>some false | .inr d=>some d)
noncomputable def q9o (b : List Int) (c : List qo) (d : List qo) (f : Int) (a : Int × List Bool) : Option ((Int × List Bool) ⊕ (List Bool)):=
  cond (decide (a.1 < (b.length : Int))) ((idx b a.1).bind fun g=>(qde c g).bind fun h=>(idx b a.1).bind fun j=>(qde d j).bind fun k=>(q6r f h k).bind fun l=>(app 1 a.2 [l]).bind fun m=>some (.inl (w64 (a.1 + 1),m))) (some (.inr a.2))
noncomputable def qdf (d : Int) (a : List qo) (b : List qo) : Option (List qo):=
  (qhc a b).bind fun c=>(loop (q9o c a b d) (0,[])).bind fun f=>(q4l c f).bind fun g=>some g
noncomputable def qbc (b : List qo) (a : Int × Int) : Option ((Int × Int) ⊕ (Int)):=
  cond (decide (a.2 < (b.length : Int))) ((idx b a.2).bind fun c=>some (.inl (w64 (a.1 + (w64 (c.Hi - c.Lo))),w64 (a.2 + 1)))) (some (.inr a.1))
noncomputable def qps (a : List qo) : Option (Int × Int):=
  (qea a).bind fun b=>cond (b != 0) (some (0,b)) ((loop (qbc a) (0,0)).bind fun c=>some (c,0))
noncomputable def q9p (b : List qo) (a : Int × Int) : Option ((Int × Int) ⊕ (Int)):=
  cond (decide (a.2 < (b.length : Int))) ((idx b a.2).bind fun c=>(idx b a.2).bind fun d=>some (.inl (w64 ((w64 (a.1 + c.Hi)) - d.Lo),w64 (a.2 + 1)))) (some (.inr a.1))
noncomputable def qo6 (a : List qo) : Option (Int × Int):=
  (qdd a).bind fun b=>cond (b != 0) ((qdd a).bind fun c=>some (0,c)) ((loop (q9p a) (0,0)).bind fun d=>some (d,0))
structure qja where
  Frame : Kv
  Size : qh
  deriving DecidableEq
structure q17c where
  t_ : Int
  at_ : qh
  flat_ : qh
  deriving DecidableEq
end Go.Sh
