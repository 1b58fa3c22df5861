/- PX -/
import Derived.Test.YtmnfbjlabfeneaaGreatK7
namespace Go.Sh
open Go Go.Am
structure qg where
  X : Int
  Y : Int
  Z : Int
  deriving DecidableEq
structure qh where
  Lo : qg
  Hi : qg
  deriving DecidableEq
def Q1 (x : qh) : List DV:=[.int .i64 x.Lo.X,.int .i64 x.Lo.Y,.int .i64 x.Lo.Z,.int .i64 x.Hi.X,.int .i64 x.Hi.Y,.int .i64 x.Hi.Z]
noncomputable def q1l (a : qg) (b : Int) : Option Bool:=
  (cond (decide (a.X ≥ (w64 (0 - b)))) (some (decide (a.X≤b))) (some false)).bind fun c=>(cond c (some (decide (a.Y ≥ (w64 (0 - b))))) (some false)).bind fun d=>(cond d (some (decide (a.Y≤b))) (some false)).bind fun f=>(cond f (some (decide (a.Z ≥ (w64 (0 - b))))) (some false)).bind fun g=>(cond g (some (decide (a.Z≤b))) (some false)).bind fun h=>some h
noncomputable def q7i (b : List qh) (a : Int) : Option ((Int) ⊕ ((Unit) ⊕ (Bool))):=
  cond (decide (a < (b.length : Int))) ((idx b a).bind fun c=>(q1l c.Lo 9).bind fun d=>(cond (!d) (some true) ((idx b a).bind fun f=>(q1l f.Hi 9).bind fun g=>some (!g))).bind fun h=>cond h (some (.inr (.inr false))) (some (.inl (w64 (a + 1))))) (some (.inr (.inl ())))
noncomputable def q5l (a : List qh) : Option Bool:=
  cond (decide ((a.length : Int) > 400)) (some (decide ((a.length : Int)≤420))) ((loop (q7i a) 0 : Option ((Unit) ⊕ (Bool))).bind fun b=>(match b with | .inl _=>some (decide ((a.length : Int)≤6)) | .inr c=>some c))
noncomputable def qak (a : List qh) : Option (List qh):=
  (app 48 [] a).bind fun b=>some b
noncomputable def Jq (b : List qh) (c : qh→Option Bool) (a : Int) : Option ((Int) ⊕ ((Unit) ⊕ (Int))):=
  cond (decide (a < (b.length : Int))) ((idx b a).bind fun d=>(c d).bind fun f=>cond f (some (.inr (.inr a))) (some (.inl (w64 (a + 1))))) (some (.inr (.inl ())))
noncomputable def q82 (a : List qh) (b : qh→Option Bool) : Option Int:=
  (loop (Jq a b) 0 : Option ((Unit) ⊕ (Int))).bind fun c=>(match c with | .inl _=>some (-1) | .inr d=>some d)
noncomputable def Uv (a : List qh) (b : qh→Option Bool) : Option Bool:=
  (q82 a b).bind fun c=>some (decide (c ≥ 0))
noncomputable def q92 (a : qg) : Option Bool:=
  (cond (decide ((min (min a.X a.Y) a.Z) ≥ (-1000000))) (some (decide ((max (max a.X a.Y) a.Z)≤1000000))) (some false)).bind fun b=>some b
noncomputable def qc0 (a : qh) : Option Bool:=
  (cond (decide (a.Lo.X < a.Hi.X)) (some (decide (a.Lo.Y < a.Hi.Y))) (some false)).bind fun b=>(cond b (some (decide (a.Lo.Z < a.Hi.Z))) (some false)).bind fun c=>(cond c ((q92 a.Lo).bind fun d=>some d) (some false)).bind fun f=>(cond f ((q92 a.Hi).bind fun g=>some g) (some false)).bind fun h=>some h
noncomputable def q4f (a : qh) : Option Bool:=
  (qc0 a).bind fun b=>some (!b)
def Yw (x : List qh) : List DV:=[.sl 6 (x.map Q1)]
def qf1 : ByteArray:=⟨#[0,1,2,2,3,3,3,3,4,4,4,4,4,4,4,4,5,5,5,5,5,5,5,5,5,5,5,5,5,5,5,5,6,6,6,6,6,6,6,6,6,6,6,6,6,6,6,6,6,6,6,6,6,6,6,6,6,6,6,6,6,6,6,6,7,7,7,7,7,7,7,7,7,7,7,7,7,7,7,7,7,7,7,7,7,7,7,7,7,7,7,7,7,7,7,7,7,7,7,7,7,7,7,7,7,7,7,7,7,7,7,7,7,7,7,7,7,7,7,7,7,7,7,7,7,7,7,7,8,8,8,8,8,8,8,8,8,8,8,8,8,8,8,8,8,8,8,8,8,8,8,8,8,8,8,8,8,8,8,8,8,8,8,8,8,8,8,8,8,8,8,8,8,8,8,8,8,8,8,8,8,8,8,8,8,8,8,8,8,8,8,8,8,8,8,8,8,8,8,8,8,8,8,8,8,8,8,8,8,8,8,8,8,8,8,8,8,8,8,8,8,8,8,8,8,8,8,8,8,8,8,8,8,8,8,8,8,8,8,8,8,8,8,8,8,8,8,8,8,8,8,8,8,8,8,8]⟩
noncomputable def q3q (c : Int) : Option Int:=
  (cond (decide (c ≥ 4294967296)) (some (Int.fdiv c (2 ^ 32),32)) (some (c,0))).bind fun a=>(cond (decide (a.1 ≥ 65536)) (some (Int.fdiv a.1 (2 ^ 16),w64 (a.2 + 16))) (some (a.1,a.2))).bind fun b=>(cond (decide (b.1 ≥ 256)) (some (Int.fdiv b.1 (2 ^ 8),w64 (b.2 + 8))) (some (b.1,b.2))).bind fun d=>(q68 qf1 (IntKind.wrap .u8 d.1)).bind fun f=>some (w64 (d.2 + (w64 f)))
noncomputable def q1h (a : Int) : Option Int:=
  (q3q a).bind fun b=>some b
noncomputable def q9p (a : Int) : Option Bool:=
  some (a != a)
noncomputable def Z7 (a : Int) (b : Int) : Option Bool:=
  (q9p a).bind fun c=>(cond c ((q9p b).bind fun d=>some (!d)) (some false)).bind fun f=>(cond f (some true) (some (decide (a < b)))).bind fun g=>some g
noncomputable def q8c (c : Int) (a : Int × List Int) : Option ((Int × List Int) ⊕ (List Int)):=
  (cond (decide (a.1 > c)) ((idx a.2 a.1).bind fun d=>(idx a.2 (w64 (a.1 - 1))).bind fun f=>(Z7 d f).bind fun g=>some g) (some false)).bind fun h=>cond h ((idx a.2 (w64 (a.1 - 1))).bind fun b=>(idx a.2 a.1).bind fun j=>(idx a.2 a.1).bind fun _=>(idx (a.2.set a.1.toNat b) (w64 (a.1 - 1))).bind fun _=>some (.inl (w64 (a.1 - 1),(a.2.set a.1.toNat b).set (w64 (a.1 - 1)).toNat j))) (some (.inr a.2))
noncomputable def q8b (b : Int) (c : Int) (a : Int × List Int) : Option ((Int × List Int) ⊕ (List Int)):=
  cond (decide (a.1 < b)) (((loop (q8c c) (a.1,a.2)).bind fun d=>some d).bind fun f=>some (.inl (w64 (a.1 + 1),f))) (some (.inr a.2))
noncomputable def q8a (b : List Int) (a : Int) (c : Int) : Option (List Int):=
  (loop (q8b c a) (w64 (a + 1),b)).bind fun d=>some d
noncomputable def q8y (d : Int) (b : Int) (a : Int × List Int) : Option ((Int × List Int) ⊕ (List Int)):=
  cond (decide ((w64 ((w64 (2 * a.1)) + 1)) ≥ d)) (some (.inr a.2)) ((cond (decide ((w64 ((w64 ((w64 (2 * a.1)) + 1)) + 1)) < d)) ((idx a.2 (w64 (b + (w64 ((w64 (2 * a.1)) + 1))))).bind fun g=>(idx a.2 (w64 ((w64 (b + (w64 ((w64 (2 * a.1)) + 1)))) + 1))).bind fun h=>(Z7 g h).bind fun j=>some j) (some false)).bind fun k=>(cond k (some (w64 ((w64 ((w64 (2 * a.1)) + 1)) + 1))) (some (w64 ((w64 (2 * a.1)) + 1)))).bind fun c=>(idx a.2 (w64 (b + a.1))).bind fun l=>(idx a.2 (w64 (b + c))).bind fun m=>(Z7 l m).bind fun n=>cond (!n) (some (.inr a.2)) ((idx a.2 (w64 (b + c))).bind fun f=>(idx a.2 (w64 (b + a.1))).bind fun o=>(idx a.2 (w64 (b + a.1))).bind fun _=>(idx (a.2.set (w64 (b + a.1)).toNat f) (w64 (b + c))).bind fun _=>some (.inl (c,(a.2.set (w64 (b + a.1)).toNat f).set (w64 (b + c)).toNat o))))
noncomputable def q5w (a : List Int) (b : Int) (c : Int) (d : Int) : Option (List Int):=
  (loop (q8y c d) (b,a)).bind fun f=>some f
noncomputable def q88 (d : Int) (b : Int) (a : Int × List Int) : Option ((Int × List Int) ⊕ (List Int)):=
  cond (decide (a.1 ≥ 0)) ((q5w a.2 a.1 (w64 (d - b)) b).bind fun c=>(K4 c.length a.2.length).bind fun _=>some (.inl (w64 (a.1 - 1),c))) (some (.inr a.2))
noncomputable def q89 (b : Int) (a : Int × List Int) : Option ((Int × List Int) ⊕ (List Int)):=
  cond (decide (a.1 ≥ 0)) ((idx a.2 (w64 (b + a.1))).bind fun c=>(idx a.2 b).bind fun d=>(idx a.2 b).bind fun _=>(idx (a.2.set b.toNat c) (w64 (b + a.1))).bind fun _=>(q5w ((a.2.set b.toNat c).set (w64 (b + a.1)).toNat d) 0 a.1 b).bind fun f=>(K4 f.length ((a.2.set b.toNat c).set (w64 (b + a.1)).toNat d).length).bind fun _=>some (.inl (w64 (a.1 - 1),f))) (some (.inr a.2))
noncomputable def q87 (c : List Int) (a : Int) (b : Int) : Option (List Int):=
  (loop (q88 b a) (w64 (Int.tdiv (w64 ((w64 (b - a)) - 1)) 2),c)).bind fun d=>(loop (q89 a) (w64 ((w64 (b - a)) - 1),d)).bind fun f=>some f
noncomputable def q4e (c : List Int) (a : Int) (b : Int) (d : Int) : Option (Int × Int × Int):=
  (idx c b).bind fun f=>(idx c a).bind fun g=>(Z7 f g).bind fun h=>cond h (some (b,a,w64 (d + 1))) (some (a,b,d))
noncomputable def q5q (a : List Int) (f : Int) (g : Int) (h : Int) (j : Int) : Option (Int × Int):=
  (q4e a f g j).bind fun b=>(q4e a b.2.1 h b.2.2).bind fun c=>(q4e a b.1 c.1 c.2.2).bind fun d=>some (d.2.1,d.2.2)
noncomputable def q4d (c : List Int) (a : Int) (d : Int) : Option (Int × Int):=
  (q5q c (w64 (a - 1)) a (w64 (a + 1)) d).bind fun b=>some (b.1,b.2)
noncomputable def q86 (d : List Int) (a : Int) (b : Int) : Option (Int × Int):=
  (cond (decide ((w64 (b - a)) ≥ 8)) ((cond (decide ((w64 (b - a)) ≥ 50)) ((q4d d (w64 (a + (w64 ((w64 (Int.tdiv (w64 (b - a)) 4)) * 1)))) 0).bind fun g=>(q4d d (w64 (a + (w64 ((w64 (Int.tdiv (w64 (b - a)) 4)) * 2)))) g.2).bind fun h=>(q4d d (w64 (a + (w64 ((w64 (Int.tdiv (w64 (b - a)) 4)) * 3)))) h.2).bind fun j=>some (g.1,h.1,j.1,j.2)) (some (w64 (a + (w64 ((w64 (Int.tdiv (w64 (b - a)) 4)) * 1))),w64 (a + (w64 ((w64 (Int.tdiv (w64 (b - a)) 4)) * 2))),w64 (a + (w64 ((w64 (Int.tdiv (w64 (b - a)) 4)) * 3))),0))).bind fun f=>(q5q d f.1 f.2.1 f.2.2.1 f.2.2.2).bind fun k=>some (k.1,k.2)) (some (w64 (a + (w64 ((w64 (Int.tdiv (w64 (b - a)) 4)) * 2))),0))).bind fun c=>cond (c.2 == 0) (some (c.1,1)) (cond (c.2 == 12) (some (c.1,2)) (some (c.1,0)))
noncomputable def qbw (a : Int × Int × List Int) : Option ((Int × Int × List Int) ⊕ (List Int)):=
  cond (decide (a.1 < a.2.1)) ((idx a.2.2 a.2.1).bind fun b=>(idx a.2.2 a.1).bind fun c=>(idx a.2.2 a.1).bind fun _=>(idx (a.2.2.set a.1.toNat b) a.2.1).bind fun _=>some (.inl (w64 (a.1 + 1),w64 (a.2.1 - 1),(a.2.2.set a.1.toNat b).set a.2.1.toNat c))) (some (.inr a.2.2))
noncomputable def q8w (a : List Int) (b : Int) (c : Int) : Option (List Int):=
  (loop qbw (b,w64 (c - 1),a)).bind fun d=>some d
noncomputable def q8g (c : Int) (b : Int × Int × List Int) (a : Int) : Option ((Int) ⊕ (Int)):=
  (cond (decide (a < c)) ((idx b.2.2 a).bind fun d=>(idx b.2.2 (w64 (a - 1))).bind fun f=>(Z7 d f).bind fun g=>some (!g)) (some false)).bind fun h=>cond h (some (.inl (w64 (a + 1)))) (some (.inr a))
noncomputable def qbj (a : Int × List Int) : Option ((Int × List Int) ⊕ (List Int)):=
  cond (decide (a.1 ≥ 1)) ((idx a.2 a.1).bind fun c=>(idx a.2 (w64 (a.1 - 1))).bind fun d=>(Z7 c d).bind fun f=>cond (!f) (some (.inr a.2)) ((idx a.2 (w64 (a.1 - 1))).bind fun b=>(idx a.2 a.1).bind fun g=>(idx a.2 a.1).bind fun _=>(idx (a.2.set a.1.toNat b) (w64 (a.1 - 1))).bind fun _=>some (.inl (w64 (a.1 - 1),(a.2.set a.1.toNat b).set (w64 (a.1 - 1)).toNat g)))) (some (.inr a.2))
noncomputable def q8h (d : Int) (b : Int) (a : Int × List Int) : Option ((Int × List Int) ⊕ (Int × List Int)):=
  cond (decide (a.1 < d)) ((idx a.2 a.1).bind fun f=>(idx a.2 (w64 (a.1 - 1))).bind fun g=>(Z7 f g).bind fun h=>cond (!h) (some (.inr (b,a.2))) ((idx a.2 (w64 (a.1 - 1))).bind fun c=>(idx a.2 a.1).bind fun j=>(idx a.2 a.1).bind fun _=>(idx (a.2.set a.1.toNat c) (w64 (a.1 - 1))).bind fun _=>some (.inl (w64 (a.1 + 1),(a.2.set a.1.toNat c).set (w64 (a.1 - 1)).toNat j)))) (some (.inr (b,a.2)))
noncomputable def q5t (c : Int) (g : Int) (b : Int × Int × List Int) : Option ((Int × Int × List Int) ⊕ ((List Int) ⊕ (Bool × List Int))):=
  cond (decide (b.2.1 < 5)) (((loop (q8g c b) b.1).bind fun a=>cond (a == c) (some (.inr (true,b.2.2))) (cond (decide ((w64 (c - g)) < 50)) (some (.inr (false,b.2.2))) ((idx b.2.2 (w64 (a - 1))).bind fun d=>(idx b.2.2 a).bind fun h=>(idx b.2.2 a).bind fun _=>(idx (b.2.2.set a.toNat d) (w64 (a - 1))).bind fun _=>(cond (decide ((w64 (a - g)) ≥ 2)) ((loop qbj (w64 (a - 1),(b.2.2.set a.toNat d).set (w64 (a - 1)).toNat h)).bind fun f=>some f) (some ((b.2.2.set a.toNat d).set (w64 (a - 1)).toNat h))).bind fun j=>cond (decide ((w64 (c - a)) ≥ 2)) ((loop (q8h c a) (w64 (a + 1),j)).bind fun f=>some (.inl f)) (some (.inl (a,j))))) : Option ((Int × List Int) ⊕ (Bool × List Int))).bind fun l=>(match l with | .inl k=>some (.inl (k.1,w64 (b.2.1 + 1),k.2)) | .inr m=>some (.inr (.inr m)))) (some (.inr (.inl b.2.2)))
noncomputable def q5s (b : List Int) (a : Int) (c : Int) : Option (Bool × List Int):=
  (loop (q5t c a) (w64 (a + 1),0,b) : Option ((List Int) ⊕ (Bool × List Int))).bind fun d=>(match d with | .inl f=>some (false,f) | .inr g=>some g)
noncomputable def q8k (b : Int × Int × List Int) (c : Int) (a : Int) : Option ((Int) ⊕ (Int)):=
  (cond (decide (a≤b.2.1)) ((idx b.2.2 c).bind fun d=>(idx b.2.2 a).bind fun f=>(Z7 d f).bind fun g=>some (!g)) (some false)).bind fun h=>cond h (some (.inl (w64 (a + 1)))) (some (.inr a))
noncomputable def q8l (c : Int) (b : Int × Int × List Int) (d : Int) (a : Int) : Option ((Int) ⊕ (Int)):=
  (cond (decide (c≤a)) ((idx b.2.2 d).bind fun f=>(idx b.2.2 a).bind fun g=>(Z7 f g).bind fun h=>some h) (some false)).bind fun j=>cond j (some (.inl (w64 (a - 1)))) (some (.inr a))
noncomputable def q8j (d : Int) (a : Int × Int × List Int) : Option ((Int × Int × List Int) ⊕ (Int × List Int)):=
  (loop (q8k a d) a.1).bind fun b=>(loop (q8l b a d) a.2.1).bind fun c=>cond (decide (b > c)) (some (.inr (b,a.2.2))) ((idx a.2.2 c).bind fun f=>(idx a.2.2 b).bind fun g=>(idx a.2.2 b).bind fun _=>(idx (a.2.2.set b.toNat f) c).bind fun _=>some (.inl (w64 (b + 1),w64 (c - 1),(a.2.2.set b.toNat f).set c.toNat g)))
noncomputable def q8i (b : List Int) (a : Int) (g : Int) (c : Int) : Option (Int × List Int):=
  (idx b c).bind fun d=>(idx b a).bind fun h=>(idx b a).bind fun _=>(idx (b.set a.toNat d) c).bind fun _=>(loop (q8j a) (w64 (a + 1),w64 (g - 1),(b.set a.toNat d).set c.toNat h)).bind fun f=>some (f.1,f.2)
noncomputable def q8n (h : Int) (c : List Int) (b : Int) (d : Int) (f : Int) (g : Int) (a : Int) : Option ((Int) ⊕ (Int)):=
  (cond (decide (a≤(w64 (h - 1)))) ((idx ((c.set b.toNat d).set f.toNat g) a).bind fun j=>(idx ((c.set b.toNat d).set f.toNat g) b).bind fun k=>(Z7 j k).bind fun l=>some l) (some false)).bind fun m=>cond m (some (.inl (w64 (a + 1)))) (some (.inr a))
noncomputable def q8o (h : Int) (c : List Int) (b : Int) (d : Int) (f : Int) (g : Int) (a : Int) : Option ((Int) ⊕ (Int)):=
  (cond (decide (h≤a)) ((idx ((c.set b.toNat d).set f.toNat g) a).bind fun j=>(idx ((c.set b.toNat d).set f.toNat g) b).bind fun k=>(Z7 j k).bind fun l=>some (!l)) (some false)).bind fun m=>cond m (some (.inl (w64 (a - 1)))) (some (.inr a))
noncomputable def q8q (b : Int × Int × List Int) (c : Int) (a : Int) : Option ((Int) ⊕ (Int)):=
  (cond (decide (a≤b.2.1)) ((idx b.2.2 a).bind fun d=>(idx b.2.2 c).bind fun f=>(Z7 d f).bind fun g=>some g) (some false)).bind fun h=>cond h (some (.inl (w64 (a + 1)))) (some (.inr a))
noncomputable def q8r (c : Int) (b : Int × Int × List Int) (d : Int) (a : Int) : Option ((Int) ⊕ (Int)):=
  (cond (decide (c≤a)) ((idx b.2.2 a).bind fun f=>(idx b.2.2 d).bind fun g=>(Z7 f g).bind fun h=>some (!h)) (some false)).bind fun j=>cond j (some (.inl (w64 (a - 1)))) (some (.inr a))
noncomputable def q8p (d : Int) (a : Int × Int × List Int) : Option ((Int × Int × List Int) ⊕ (Int × List Int)):=
  (loop (q8q a d) a.1).bind fun b=>(loop (q8r b a d) a.2.1).bind fun c=>cond (decide (b > c)) (some (.inr (c,a.2.2))) ((idx a.2.2 c).bind fun f=>(idx a.2.2 b).bind fun g=>(idx a.2.2 b).bind fun _=>(idx (a.2.2.set b.toNat f) c).bind fun _=>some (.inl (w64 (b + 1),w64 (c - 1),(a.2.2.set b.toNat f).set c.toNat g)))
noncomputable def q8m (b : List Int) (a : Int) (k : Int) (c : Int) : Option (Int × Bool × List Int):=
  (idx b c).bind fun d=>(idx b a).bind fun f=>(idx b a).bind fun _=>(idx (b.set a.toNat d) c).bind fun _=>(loop (q8n k b a d c f) (w64 (a + 1))).bind fun j=>(loop (q8o j b a d c f) (w64 (k - 1))).bind fun g=>cond (decide (j > g)) ((idx ((b.set a.toNat d).set c.toNat f) a).bind fun l=>(idx ((b.set a.toNat d).set c.toNat f) g).bind fun o=>(idx ((b.set a.toNat d).set c.toNat f) g).bind fun _=>(idx (((b.set a.toNat d).set c.toNat f).set g.toNat l) a).bind fun _=>some (g,true,(((b.set a.toNat d).set c.toNat f).set g.toNat l).set a.toNat o)) ((idx ((b.set a.toNat d).set c.toNat f) g).bind fun m=>(idx ((b.set a.toNat d).set c.toNat f) j).bind fun p=>(idx ((b.set a.toNat d).set c.toNat f) j).bind fun _=>(idx (((b.set a.toNat d).set c.toNat f).set j.toNat m) g).bind fun _=>(loop (q8p a) (w64 (j + 1),w64 (g - 1),(((b.set a.toNat d).set c.toNat f).set j.toNat m).set g.toNat p)).bind fun h=>(idx h.2 a).bind fun n=>(idx h.2 h.1).bind fun q=>(idx h.2 h.1).bind fun _=>(idx (h.2.set h.1.toNat n) a).bind fun _=>some (h.1,false,(h.2.set h.1.toNat n).set a.toNat q))
noncomputable def q2t (a : Int) : Option Int:=
  (q1h (IntKind.wrap .u64 a)).bind fun b=>(shlK .u64 1 b).bind fun c=>some c
noncomputable def q2u (a : Int) : Option Int:=
  some (xorI .u64 (xorI .u64 (xorI .u64 a (IntKind.wrap .u64 (a * (2 ^ 13)))) (Int.fdiv (xorI .u64 a (IntKind.wrap .u64 (a * (2 ^ 13)))) (2 ^ 7))) (IntKind.wrap .u64 ((xorI .u64 (xorI .u64 a (IntKind.wrap .u64 (a * (2 ^ 13)))) (Int.fdiv (xorI .u64 a (IntKind.wrap .u64 (a * (2 ^ 13)))) (2 ^ 7))) * (2 ^ 17))))
noncomputable def q85 (b : Int) (d : Int) (f : Int) (a : Int × List Int × Int) : Option ((Int × List Int × Int) ⊕ (List Int)):=
  cond (decide (a.1≤(w64 ((w64 (b + (w64 ((w64 (Int.tdiv (w64 (d - b)) 4)) * 2)))) + 1)))) ((q2u a.2.2).bind fun c=>(cond (decide ((w64 (andI .u64 c (IntKind.wrap .u64 (f - 1)))) ≥ (w64 (d - b)))) (some (w64 ((w64 (andI .u64 c (IntKind.wrap .u64 (f - 1)))) - (w64 (d - b))))) (some (w64 (andI .u64 c (IntKind.wrap .u64 (f - 1)))))).bind fun g=>(idx a.2.1 (w64 (b + g))).bind fun h=>(idx a.2.1 a.1).bind fun j=>(idx a.2.1 a.1).bind fun _=>(idx (a.2.1.set a.1.toNat h) (w64 (b + g))).bind fun _=>some (.inl (w64 (a.1 + 1),(a.2.1.set a.1.toNat h).set (w64 (b + g)).toNat j,c))) (some (.inr a.2.1))
noncomputable def q84 (c : List Int) (a : Int) (b : Int) : Option (List Int):=
  cond (decide ((w64 (b - a)) ≥ 8)) ((q2t (w64 (b - a))).bind fun d=>(loop (q85 a b d) (w64 ((w64 (a + (w64 ((w64 (Int.tdiv (w64 (b - a)) 4)) * 2)))) - 1),c,IntKind.wrap .u64 (w64 (b - a)))).bind fun f=>some f) (some c)
noncomputable def q5u (rec : List Int→Int→Int→Int→Option (List Int)) (a : Int × Int × Int × Bool × Bool × List Int) : Option ((Int × Int × Int × Bool × Bool × List Int) ⊕ (List Int)):=
  cond (decide ((w64 (a.2.1 - a.1))≤12)) ((q8a a.2.2.2.2.2 a.1 a.2.1).bind fun k=>(K4 k.length a.2.2.2.2.2.length).bind fun _=>some (.inr k)) (cond (a.2.2.1 == 0) ((q87 a.2.2.2.2.2 a.1 a.2.1).bind fun l=>(K4 l.length a.2.2.2.2.2.length).bind fun _=>some (.inr l)) ((cond (!a.2.2.2.1) ((q84 a.2.2.2.2.2 a.1 a.2.1).bind fun m=>(K4 m.length a.2.2.2.2.2.length).bind fun _=>some (w64 (a.2.2.1 - 1),m)) (some (a.2.2.1,a.2.2.2.2.2))).bind fun c=>(q86 c.2 a.1 a.2.1).bind fun g=>(cond (g.2 == 2) ((q8w c.2 a.1 a.2.1).bind fun n=>(K4 n.length c.2.length).bind fun _=>some (w64 ((w64 (a.2.1 - 1)) - (w64 (g.1 - a.1))),1,n)) (some (g.1,g.2,c.2))).bind fun d=>(cond a.2.2.2.1 (some a.2.2.2.2.1) (some false)).bind fun q=>(cond q (some (d.2.1 == 1)) (some false)).bind fun r=>(cond r ((q5s d.2.2 a.1 a.2.1).bind fun h=>(K4 h.2.length d.2.2.length).bind fun _=>cond h.1 (some (.inr h.2)) (some (.inl h.2))) (some (.inl d.2.2)) : Option ((List Int) ⊕ (List Int))).bind fun s=>(match s with | .inl f=>(cond (decide (a.1 > 0)) ((idx f (w64 (a.1 - 1))).bind fun t=>(idx f d.1).bind fun u=>(Z7 t u).bind fun v=>some (!v)) (some false)).bind fun x=>cond x ((q8i f a.1 a.2.1 d.1).bind fun j=>(K4 j.2.length f.length).bind fun _=>some (.inl (j.1,a.2.1,c.1,a.2.2.2.1,a.2.2.2.2.1,j.2))) ((q8m f a.1 a.2.1 d.1).bind fun b=>(K4 b.2.2.length f.length).bind fun _=>cond (decide ((w64 (b.1 - a.1)) < (w64 (a.2.1 - b.1)))) ((rec b.2.2 a.1 b.1 c.1).bind fun o=>(K4 o.length b.2.2.length).bind fun _=>some (.inl (w64 (b.1 + 1),a.2.1,c.1,decide ((w64 (b.1 - a.1)) ≥ (w64 (Int.tdiv (w64 (a.2.1 - a.1)) 8))),b.2.1,o))) ((rec b.2.2 (w64 (b.1 + 1)) a.2.1 c.1).bind fun p=>(K4 p.length b.2.2.length).bind fun _=>some (.inl (a.1,b.1,c.1,decide ((w64 (a.2.1 - b.1)) ≥ (w64 (Int.tdiv (w64 (a.2.1 - a.1)) 8))),b.2.1,p)))) | .inr y=>some (.inr y))))
noncomputable def q5v (rec : List Int→Int→Int→Int→Option (List Int)) (a : List Int) (b : Int) (c : Int) (d : Int) : Option (List Int):=
  (loop (q5u rec) (b,c,d,true,true,a)).bind fun f=>some f
noncomputable def q8v : Nat→List Int→Int→Int→Int→Option (List Int)
  | 0,_,_,_,_=>none
  | n + 1,a,b,c,d=>q5v (q8v n)  a b c d
noncomputable def q1m (a : List Int) : Option (List Int):=
  (q1h (IntKind.wrap .u64 (a.length : Int))).bind fun c=>(lim (fun n=>q8v n a 0 (a.length : Int) c)).bind fun b=>(K4 b.length a.length).bind fun _=>some b
noncomputable def q2s (a : Int × (Nat × Nat) × Int × List Int) : Option ((Int × (Nat × Nat) × Int × List Int) ⊕ (Int × List Int)):=
  cond (decide (a.2.2.1 < (a.2.1.2 : Int))) (((idxW a.2.2.2 a.2.1 a.2.2.1).bind fun c=>(idxW a.2.2.2 a.2.1 (w64 (a.2.2.1 - 1))).bind fun d=>cond (c != d) ((idxW a.2.2.2 a.2.1 a.2.2.1).bind fun f=>(idx a.2.2.2 a.1).bind fun _=>some (w64 (a.1 + 1),a.2.1,a.2.2.2.set a.1.toNat f)) (some (a.1,a.2.1,a.2.2.2))).bind fun b=>some (.inl (b.1,b.2.1,w64 (a.2.2.1 + 1),b.2.2))) (some (.inr (a.1,a.2.2.2)))
noncomputable def Jp (a : List Int) (b : Int) : Option ((Int) ⊕ ((Unit) ⊕ ((Nat × Nat) × List Int))):=
  cond (decide (b < (a.length : Int))) ((idx a b).bind fun d=>(idx a (w64 (b - 1))).bind fun f=>cond (d == f) ((sub2 a.length b a.length).bind fun g=>(loop q2s (b,g,1,a)).bind fun c=>(sub2 c.2.length c.1 c.2.length).bind fun h=>(sub2 c.2.length 0 c.1).bind fun j=>some (.inr (.inr (j,clrw c.2 h 0)))) (some (.inl (w64 (b + 1))))) (some (.inr (.inl ())))
noncomputable def q4b (a : List Int) : Option ((Nat × Nat) × List Int):=
  cond (decide ((a.length : Int) < 2)) (some ((0,a.length),a)) ((loop (Jp a) 1 : Option ((Unit) ⊕ ((Nat × Nat) × List Int))).bind fun b=>(match b with | .inl _=>some ((0,a.length),a) | .inr c=>some c))
structure qk where
  X0 : Int
  Y0 : Int
  X1 : Int
  Y1 : Int
  deriving DecidableEq
def Qe (x : qk) : List DV:=[.int .i64 x.X0,.int .i64 x.Y0,.int .i64 x.X1,.int .i64 x.Y1]
noncomputable def q5o (b : List qk) (c : qk→Option Bool) (a : Int) : Option ((Int) ⊕ ((Unit) ⊕ (Int))):=
  cond (decide (a < (b.length : Int))) ((idx b a).bind fun d=>(c d).bind fun f=>cond f (some (.inr (.inr a))) (some (.inl (w64 (a + 1))))) (some (.inr (.inl ())))
noncomputable def qew (a : List qk) (b : qk→Option Bool) : Option Int:=
  (loop (q5o a b) 0 : Option ((Unit) ⊕ (Int))).bind fun c=>(match c with | .inl _=>some (-1) | .inr d=>some d)
noncomputable def qb3 (a : List qk) (b : qk→Option Bool) : Option Bool:=
  (qew a b).bind fun c=>some (decide (c ≥ 0))
noncomputable def q46 (a : Int) : Option Bool:=
  (cond (decide (a ≥ (-1000000))) (some (decide (a≤1000000))) (some false)).bind fun b=>some b
noncomputable def qaw (a : qk) : Option Bool:=
  (cond (decide (a.X0 < a.X1)) (some (decide (a.Y0 < a.Y1))) (some false)).bind fun b=>(cond b ((q46 a.X0).bind fun c=>some c) (some false)).bind fun d=>(cond d ((q46 a.X1).bind fun f=>some f) (some false)).bind fun g=>(cond g ((q46 a.Y0).bind fun h=>some h) (some false)).bind fun j=>(cond j ((q46 a.Y1).bind fun k=>some k) (some false)).bind fun l=>some l
noncomputable def q45 (a : qk) : Option Bool:=
  (qaw a).bind fun b=>some (!b)
def Zw (x : List qk) : List DV:=[.sl 4 (x.map Qe)]
structure qu where
  Lo : Int
  Hi : Int
  deriving DecidableEq
def Qy (x : qu) : List DV:=[.int .i64 x.Lo,.int .i64 x.Hi]
noncomputable def q4c (b : List qu) (c : qu→Option Bool) (a : Int) : Option ((Int) ⊕ ((Unit) ⊕ (Int))):=
  cond (decide (a < (b.length : Int))) ((idx b a).bind fun d=>(c d).bind fun f=>cond f (some (.inr (.inr a))) (some (.inl (w64 (a + 1))))) (some (.inr (.inl ())))
noncomputable def qb6 (a : List qu) (b : qu→Option Bool) : Option Int:=
  (loop (q4c a b) 0 : Option ((Unit) ⊕ (Int))).bind fun c=>(match c with | .inl _=>some (-1) | .inr d=>some d)
noncomputable def qb4 (a : List qu) (b : qu→Option Bool) : Option Bool:=
  (qb6 a b).bind fun c=>some (decide (c ≥ 0))
noncomputable def q4g (a : qu) : Option Bool:=
  (cond (decide (a.Lo < a.Hi)) (some (decide (a.Lo ≥ (-1000000)))) (some false)).bind fun b=>(cond b (some (decide (a.Hi≤1000000))) (some false)).bind fun c=>some c
noncomputable def qf0 (a : qu) : Option Bool:=
  (q4g a).bind fun b=>some (!b)
def q1w (x : List qu) : List DV:=[.sl 2 (x.map Qy)]
structure qp where
  at_ : Int
  list_ : Int
  by_ : Int
  deriving DecidableEq
def Qg (x : qp) : List DV:=[.int .i64 x.at_,.int .i64 x.list_,.int .i64 x.by_]
noncomputable def qc4 (a : qp) (b : qp) : Option Int:=
  some (w64 (a.at_ - b.at_))
noncomputable def qbf (c : Int) (d : qp→qp→Option Int) (a : Int × List qp) : Option ((Int × List qp) ⊕ (List qp)):=
  (cond (decide (a.1 > c)) ((idx a.2 a.1).bind fun f=>(idx a.2 (w64 (a.1 - 1))).bind fun g=>(d f g).bind fun h=>some (decide (h < 0))) (some false)).bind fun j=>cond j ((idx a.2 (w64 (a.1 - 1))).bind fun b=>(idx a.2 a.1).bind fun k=>(idx a.2 a.1).bind fun _=>(idx (a.2.set a.1.toNat b) (w64 (a.1 - 1))).bind fun _=>some (.inl (w64 (a.1 - 1),(a.2.set a.1.toNat b).set (w64 (a.1 - 1)).toNat k))) (some (.inr a.2))
noncomputable def qbe (b : Int) (c : Int) (d : qp→qp→Option Int) (a : Int × List qp) : Option ((Int × List qp) ⊕ (List qp)):=
  cond (decide (a.1 < b)) (((loop (qbf c d) (a.1,a.2)).bind fun f=>some f).bind fun g=>some (.inl (w64 (a.1 + 1),g))) (some (.inr a.2))
noncomputable def qbd (b : qp→qp→Option Int) (c : List qp) (a : Int) (d : Int) : Option (List qp):=
  (loop (qbe d a b) (w64 (a + 1),c)).bind fun f=>some f
noncomputable def qbx (d : Int) (b : Int) (f : qp→qp→Option Int) (a : Int × List qp) : Option ((Int × List qp) ⊕ (List qp)):=
  cond (decide ((w64 ((w64 (2 * a.1)) + 1)) ≥ d)) (some (.inr a.2)) ((cond (decide ((w64 ((w64 ((w64 (2 * a.1)) + 1)) + 1)) < d)) ((idx a.2 (w64 (b + (w64 ((w64 (2 * a.1)) + 1))))).bind fun h=>(idx a.2 (w64 ((w64 (b + (w64 ((w64 (2 * a.1)) + 1)))) + 1))).bind fun j=>(f h j).bind fun k=>some (decide (k < 0))) (some false)).bind fun l=>(cond l (some (w64 ((w64 ((w64 (2 * a.1)) + 1)) + 1))) (some (w64 ((w64 (2 * a.1)) + 1)))).bind fun c=>(idx a.2 (w64 (b + a.1))).bind fun m=>(idx a.2 (w64 (b + c))).bind fun n=>(f m n).bind fun o=>cond (!(decide (o < 0))) (some (.inr a.2)) ((idx a.2 (w64 (b + c))).bind fun g=>(idx a.2 (w64 (b + a.1))).bind fun p=>(idx a.2 (w64 (b + a.1))).bind fun _=>(idx (a.2.set (w64 (b + a.1)).toNat g) (w64 (b + c))).bind fun _=>some (.inl (c,(a.2.set (w64 (b + a.1)).toNat g).set (w64 (b + c)).toNat p))))
noncomputable def q8x (a : qp→qp→Option Int) (b : List qp) (c : Int) (d : Int) (f : Int) : Option (List qp):=
  (loop (qbx d f a) (c,b)).bind fun g=>some g
noncomputable def qbb (d : qp→qp→Option Int) (f : Int) (b : Int) (a : Int × List qp) : Option ((Int × List qp) ⊕ (List qp)):=
  cond (decide (a.1 ≥ 0)) ((q8x d a.2 a.1 (w64 (f - b)) b).bind fun c=>(K4 c.length a.2.length).bind fun _=>some (.inl (w64 (a.1 - 1),c))) (some (.inr a.2))
noncomputable def qbc (b : Int) (g : qp→qp→Option Int) (a : Int × List qp) : Option ((Int × List qp) ⊕ (List qp)):=
  cond (decide (a.1 ≥ 0)) ((idx a.2 (w64 (b + a.1))).bind fun c=>(idx a.2 b).bind fun d=>(idx a.2 b).bind fun _=>(idx (a.2.set b.toNat c) (w64 (b + a.1))).bind fun _=>(q8x g ((a.2.set b.toNat c).set (w64 (b + a.1)).toNat d) 0 a.1 b).bind fun f=>(K4 f.length ((a.2.set b.toNat c).set (w64 (b + a.1)).toNat d).length).bind fun _=>some (.inl (w64 (a.1 - 1),f))) (some (.inr a.2))
noncomputable def qba (c : qp→qp→Option Int) (d : List qp) (a : Int) (b : Int) : Option (List qp):=
  (loop (qbb c b a) (w64 (Int.tdiv (w64 ((w64 (b - a)) - 1)) 2),d)).bind fun f=>(loop (qbc a c) (w64 ((w64 (b - a)) - 1),f)).bind fun g=>some g
noncomputable def q5r (f : qp→qp→Option Int) (c : List qp) (a : Int) (b : Int) (d : Int) : Option (Int × Int × Int):=
  (idx c b).bind fun g=>(idx c a).bind fun h=>(f g h).bind fun j=>cond (decide (j < 0)) (some (b,a,w64 (d + 1))) (some (a,b,d))
noncomputable def q8d (a : qp→qp→Option Int) (b : List qp) (g : Int) (h : Int) (j : Int) (k : Int) : Option (Int × Int):=
  (q5r a b g h k).bind fun c=>(q5r a b c.2.1 j c.2.2).bind fun d=>(q5r a b c.1 d.1 d.2.2).bind fun f=>some (f.2.1,f.2.2)
noncomputable def q5p (c : qp→qp→Option Int) (d : List qp) (a : Int) (f : Int) : Option (Int × Int):=
  (q8d c d (w64 (a - 1)) a (w64 (a + 1)) f).bind fun b=>some (b.1,b.2)
noncomputable def qb9 (d : List qp) (a : Int) (b : Int) (f : qp→qp→Option Int) : Option (Int × Int):=
  (cond (decide ((w64 (b - a)) ≥ 8)) ((cond (decide ((w64 (b - a)) ≥ 50)) ((q5p f d (w64 (a + (w64 ((w64 (Int.tdiv (w64 (b - a)) 4)) * 1)))) 0).bind fun h=>(q5p f d (w64 (a + (w64 ((w64 (Int.tdiv (w64 (b - a)) 4)) * 2)))) h.2).bind fun j=>(q5p f d (w64 (a + (w64 ((w64 (Int.tdiv (w64 (b - a)) 4)) * 3)))) j.2).bind fun k=>some (h.1,j.1,k.1,k.2)) (some (w64 (a + (w64 ((w64 (Int.tdiv (w64 (b - a)) 4)) * 1))),w64 (a + (w64 ((w64 (Int.tdiv (w64 (b - a)) 4)) * 2))),w64 (a + (w64 ((w64 (Int.tdiv (w64 (b - a)) 4)) * 3))),0))).bind fun g=>(q8d f d g.1 g.2.1 g.2.2.1 g.2.2.2).bind fun l=>some (l.1,l.2)) (some (w64 (a + (w64 ((w64 (Int.tdiv (w64 (b - a)) 4)) * 2))),0))).bind fun c=>cond (c.2 == 0) (some (c.1,1)) (cond (c.2 == 12) (some (c.1,2)) (some (c.1,0)))
noncomputable def qbv (a : Int × Int × List qp) : Option ((Int × Int × List qp) ⊕ (List qp)):=
  cond (decide (a.1 < a.2.1)) ((idx a.2.2 a.2.1).bind fun b=>(idx a.2.2 a.1).bind fun c=>(idx a.2.2 a.1).bind fun _=>(idx (a.2.2.set a.1.toNat b) a.2.1).bind fun _=>some (.inl (w64 (a.1 + 1),w64 (a.2.1 - 1),(a.2.2.set a.1.toNat b).set a.2.1.toNat c))) (some (.inr a.2.2))
noncomputable def qbu (f : qp→qp→Option Int) (a : List qp) (b : Int) (c : Int) : Option (List qp):=
  (loop qbv (b,w64 (c - 1),a)).bind fun d=>some d
noncomputable def qbg (c : Int) (b : Int × Int × List qp) (d : qp→qp→Option Int) (a : Int) : Option ((Int) ⊕ (Int)):=
  (cond (decide (a < c)) ((idx b.2.2 a).bind fun f=>(idx b.2.2 (w64 (a - 1))).bind fun g=>(d f g).bind fun h=>some (!(decide (h < 0)))) (some false)).bind fun j=>cond j (some (.inl (w64 (a + 1)))) (some (.inr a))
noncomputable def qbh (c : qp→qp→Option Int) (a : Int × List qp) : Option ((Int × List qp) ⊕ (List qp)):=
  cond (decide (a.1 ≥ 1)) ((idx a.2 a.1).bind fun d=>(idx a.2 (w64 (a.1 - 1))).bind fun f=>(c d f).bind fun g=>cond (!(decide (g < 0))) (some (.inr a.2)) ((idx a.2 (w64 (a.1 - 1))).bind fun b=>(idx a.2 a.1).bind fun h=>(idx a.2 a.1).bind fun _=>(idx (a.2.set a.1.toNat b) (w64 (a.1 - 1))).bind fun _=>some (.inl (w64 (a.1 - 1),(a.2.set a.1.toNat b).set (w64 (a.1 - 1)).toNat h)))) (some (.inr a.2))
noncomputable def qbi (d : Int) (f : qp→qp→Option Int) (b : Int) (a : Int × List qp) : Option ((Int × List qp) ⊕ (Int × List qp)):=
  cond (decide (a.1 < d)) ((idx a.2 a.1).bind fun g=>(idx a.2 (w64 (a.1 - 1))).bind fun h=>(f g h).bind fun j=>cond (!(decide (j < 0))) (some (.inr (b,a.2))) ((idx a.2 (w64 (a.1 - 1))).bind fun c=>(idx a.2 a.1).bind fun k=>(idx a.2 a.1).bind fun _=>(idx (a.2.set a.1.toNat c) (w64 (a.1 - 1))).bind fun _=>some (.inl (w64 (a.1 + 1),(a.2.set a.1.toNat c).set (w64 (a.1 - 1)).toNat k)))) (some (.inr (b,a.2)))
noncomputable def q8f (c : Int) (d : qp→qp→Option Int) (h : Int) (b : Int × Int × List qp) : Option ((Int × Int × List qp) ⊕ ((List qp) ⊕ (Bool × List qp))):=
  cond (decide (b.2.1 < 5)) (((loop (qbg c b d) b.1).bind fun a=>cond (a == c) (some (.inr (true,b.2.2))) (cond (decide ((w64 (c - h)) < 50)) (some (.inr (false,b.2.2))) ((idx b.2.2 (w64 (a - 1))).bind fun f=>(idx b.2.2 a).bind fun j=>(idx b.2.2 a).bind fun _=>(idx (b.2.2.set a.toNat f) (w64 (a - 1))).bind fun _=>(cond (decide ((w64 (a - h)) ≥ 2)) ((loop (qbh d) (w64 (a - 1),(b.2.2.set a.toNat f).set (w64 (a - 1)).toNat j)).bind fun g=>some g) (some ((b.2.2.set a.toNat f).set (w64 (a - 1)).toNat j))).bind fun k=>cond (decide ((w64 (c - a)) ≥ 2)) ((loop (qbi c d a) (w64 (a + 1),k)).bind fun g=>some (.inl g)) (some (.inl (a,k))))) : Option ((Int × List qp) ⊕ (Bool × List qp))).bind fun m=>(match m with | .inl l=>some (.inl (l.1,w64 (b.2.1 + 1),l.2)) | .inr n=>some (.inr (.inr n)))) (some (.inr (.inl b.2.2)))
noncomputable def q8e (b : qp→qp→Option Int) (c : List qp) (a : Int) (d : Int) : Option (Bool × List qp):=
  (loop (q8f d b a) (w64 (a + 1),0,c) : Option ((List qp) ⊕ (Bool × List qp))).bind fun f=>(match f with | .inl g=>some (false,g) | .inr h=>some h)
noncomputable def qbs (b : Int × Int × List qp) (c : Int) (d : qp→qp→Option Int) (a : Int) : Option ((Int) ⊕ (Int)):=
  (cond (decide (a≤b.2.1)) ((idx b.2.2 c).bind fun f=>(idx b.2.2 a).bind fun g=>(d f g).bind fun h=>some (!(decide (h < 0)))) (some false)).bind fun j=>cond j (some (.inl (w64 (a + 1)))) (some (.inr a))
noncomputable def qbt (c : Int) (b : Int × Int × List qp) (d : Int) (f : qp→qp→Option Int) (a : Int) : Option ((Int) ⊕ (Int)):=
  (cond (decide (c≤a)) ((idx b.2.2 d).bind fun g=>(idx b.2.2 a).bind fun h=>(f g h).bind fun j=>some (decide (j < 0))) (some false)).bind fun k=>cond k (some (.inl (w64 (a - 1)))) (some (.inr a))
noncomputable def qbr (d : Int) (f : qp→qp→Option Int) (a : Int × Int × List qp) : Option ((Int × Int × List qp) ⊕ (Int × List qp)):=
  (loop (qbs a d f) a.1).bind fun b=>(loop (qbt b a d f) a.2.1).bind fun c=>cond (decide (b > c)) (some (.inr (b,a.2.2))) ((idx a.2.2 c).bind fun g=>(idx a.2.2 b).bind fun h=>(idx a.2.2 b).bind fun _=>(idx (a.2.2.set b.toNat g) c).bind fun _=>some (.inl (w64 (b + 1),w64 (c - 1),(a.2.2.set b.toNat g).set c.toNat h)))
noncomputable def qbq (g : qp→qp→Option Int) (b : List qp) (a : Int) (h : Int) (c : Int) : Option (Int × List qp):=
  (idx b c).bind fun d=>(idx b a).bind fun j=>(idx b a).bind fun _=>(idx (b.set a.toNat d) c).bind fun _=>(loop (qbr a g) (w64 (a + 1),w64 (h - 1),(b.set a.toNat d).set c.toNat j)).bind fun f=>some (f.1,f.2)
noncomputable def qbl (h : Int) (c : List qp) (b : Int) (d : qp) (f : Int) (g : qp) (j : qp→qp→Option Int) (a : Int) : Option ((Int) ⊕ (Int)):=
  (cond (decide (a≤(w64 (h - 1)))) ((idx ((c.set b.toNat d).set f.toNat g) a).bind fun k=>(idx ((c.set b.toNat d).set f.toNat g) b).bind fun l=>(j k l).bind fun m=>some (decide (m < 0))) (some false)).bind fun n=>cond n (some (.inl (w64 (a + 1)))) (some (.inr a))
noncomputable def qbm (h : Int) (c : List qp) (b : Int) (d : qp) (f : Int) (g : qp) (j : qp→qp→Option Int) (a : Int) : Option ((Int) ⊕ (Int)):=
  (cond (decide (h≤a)) ((idx ((c.set b.toNat d).set f.toNat g) a).bind fun k=>(idx ((c.set b.toNat d).set f.toNat g) b).bind fun l=>(j k l).bind fun m=>some (!(decide (m < 0)))) (some false)).bind fun n=>cond n (some (.inl (w64 (a - 1)))) (some (.inr a))
noncomputable def qbo (b : Int × Int × List qp) (c : Int) (d : qp→qp→Option Int) (a : Int) : Option ((Int) ⊕ (Int)):=
  (cond (decide (a≤b.2.1)) ((idx b.2.2 a).bind fun f=>(idx b.2.2 c).bind fun g=>(d f g).bind fun h=>some (decide (h < 0))) (some false)).bind fun j=>cond j (some (.inl (w64 (a + 1)))) (some (.inr a))
noncomputable def qbp (c : Int) (b : Int × Int × List qp) (d : Int) (f : qp→qp→Option Int) (a : Int) : Option ((Int) ⊕ (Int)):=
  (cond (decide (c≤a)) ((idx b.2.2 a).bind fun g=>(idx b.2.2 d).bind fun h=>(f g h).bind fun j=>some (!(decide (j < 0)))) (some false)).bind fun k=>cond k (some (.inl (w64 (a - 1)))) (some (.inr a))
noncomputable def qbn (d : Int) (f : qp→qp→Option Int) (a : Int × Int × List qp) : Option ((Int × Int × List qp) ⊕ (Int × List qp)):=
  (loop (qbo a d f) a.1).bind fun b=>(loop (qbp b a d f) a.2.1).bind fun c=>cond (decide (b > c)) (some (.inr (c,a.2.2))) ((idx a.2.2 c).bind fun g=>(idx a.2.2 b).bind fun h=>(idx a.2.2 b).bind fun _=>(idx (a.2.2.set b.toNat g) c).bind fun _=>some (.inl (w64 (b + 1),w64 (c - 1),(a.2.2.set b.toNat g).set c.toNat h)))
noncomputable def qbk (k : qp→qp→Option Int) (b : List qp) (a : Int) (l : Int) (c : Int) : Option (Int × Bool × List qp):=
  (idx b c).bind fun d=>(idx b a).bind fun f=>(idx b a).bind fun _=>(idx (b.set a.toNat d) c).bind fun _=>(loop (qbl l b a d c f k) (w64 (a + 1))).bind fun j=>(loop (qbm j b a d c f k) (w64 (l - 1))).bind fun g=>cond (decide (j > g)) ((idx ((b.set a.toNat d).set c.toNat f) a).bind fun m=>(idx ((b.set a.toNat d).set c.toNat f) g).bind fun p=>(idx ((b.set a.toNat d).set c.toNat f) g).bind fun _=>(idx (((b.set a.toNat d).set c.toNat f).set g.toNat m) a).bind fun _=>some (g,true,(((b.set a.toNat d).set c.toNat f).set g.toNat m).set a.toNat p)) ((idx ((b.set a.toNat d).set c.toNat f) g).bind fun n=>(idx ((b.set a.toNat d).set c.toNat f) j).bind fun q=>(idx ((b.set a.toNat d).set c.toNat f) j).bind fun _=>(idx (((b.set a.toNat d).set c.toNat f).set j.toNat n) g).bind fun _=>(loop (qbn a k) (w64 (j + 1),w64 (g - 1),(((b.set a.toNat d).set c.toNat f).set j.toNat n).set g.toNat q)).bind fun h=>(idx h.2 a).bind fun o=>(idx h.2 h.1).bind fun r=>(idx h.2 h.1).bind fun _=>(idx (h.2.set h.1.toNat o) a).bind fun _=>some (h.1,false,(h.2.set h.1.toNat o).set a.toNat r))
noncomputable def qb8 (b : Int) (d : Int) (f : Int) (a : Int × List qp × Int) : Option ((Int × List qp × Int) ⊕ (List qp)):=
  cond (decide (a.1≤(w64 ((w64 (b + (w64 ((w64 (Int.tdiv (w64 (d - b)) 4)) * 2)))) + 1)))) ((q2u a.2.2).bind fun c=>(cond (decide ((w64 (andI .u64 c (IntKind.wrap .u64 (f - 1)))) ≥ (w64 (d - b)))) (some (w64 ((w64 (andI .u64 c (IntKind.wrap .u64 (f - 1)))) - (w64 (d - b))))) (some (w64 (andI .u64 c (IntKind.wrap .u64 (f - 1)))))).bind fun g=>(idx a.2.1 (w64 (b + g))).bind fun h=>(idx a.2.1 a.1).bind fun j=>(idx a.2.1 a.1).bind fun _=>(idx (a.2.1.set a.1.toNat h) (w64 (b + g))).bind fun _=>some (.inl (w64 (a.1 + 1),(a.2.1.set a.1.toNat h).set (w64 (b + g)).toNat j,c))) (some (.inr a.2.1))
noncomputable def qb7 (g : qp→qp→Option Int) (c : List qp) (a : Int) (b : Int) : Option (List qp):=
  cond (decide ((w64 (b - a)) ≥ 8)) ((q2t (w64 (b - a))).bind fun d=>(loop (qb8 a b d) (w64 ((w64 (a + (w64 ((w64 (Int.tdiv (w64 (b - a)) 4)) * 2)))) - 1),c,IntKind.wrap .u64 (w64 (b - a)))).bind fun f=>some f) (some c)
noncomputable def q8t (c : qp→qp→Option Int) (rec : List qp→Int→Int→Int→Option (List qp)) (a : Int × Int × Int × Bool × Bool × List qp) : Option ((Int × Int × Int × Bool × Bool × List qp) ⊕ (List qp)):=
  cond (decide ((w64 (a.2.1 - a.1))≤12)) ((qbd c a.2.2.2.2.2 a.1 a.2.1).bind fun l=>(K4 l.length a.2.2.2.2.2.length).bind fun _=>some (.inr l)) (cond (a.2.2.1 == 0) ((qba c a.2.2.2.2.2 a.1 a.2.1).bind fun m=>(K4 m.length a.2.2.2.2.2.length).bind fun _=>some (.inr m)) ((cond (!a.2.2.2.1) ((qb7 c a.2.2.2.2.2 a.1 a.2.1).bind fun n=>(K4 n.length a.2.2.2.2.2.length).bind fun _=>some (w64 (a.2.2.1 - 1),n)) (some (a.2.2.1,a.2.2.2.2.2))).bind fun d=>(qb9 d.2 a.1 a.2.1 c).bind fun h=>(cond (h.2 == 2) ((qbu c d.2 a.1 a.2.1).bind fun o=>(K4 o.length d.2.length).bind fun _=>some (w64 ((w64 (a.2.1 - 1)) - (w64 (h.1 - a.1))),1,o)) (some (h.1,h.2,d.2))).bind fun f=>(cond a.2.2.2.1 (some a.2.2.2.2.1) (some false)).bind fun r=>(cond r (some (f.2.1 == 1)) (some false)).bind fun s=>(cond s ((q8e c f.2.2 a.1 a.2.1).bind fun j=>(K4 j.2.length f.2.2.length).bind fun _=>cond j.1 (some (.inr j.2)) (some (.inl j.2))) (some (.inl f.2.2)) : Option ((List qp) ⊕ (List qp))).bind fun t=>(match t with | .inl g=>(cond (decide (a.1 > 0)) ((idx g (w64 (a.1 - 1))).bind fun u=>(idx g f.1).bind fun v=>(c u v).bind fun x=>some (!(decide (x < 0)))) (some false)).bind fun y=>cond y ((qbq c g a.1 a.2.1 f.1).bind fun k=>(K4 k.2.length g.length).bind fun _=>some (.inl (k.1,a.2.1,d.1,a.2.2.2.1,a.2.2.2.2.1,k.2))) ((qbk c g a.1 a.2.1 f.1).bind fun b=>(K4 b.2.2.length g.length).bind fun _=>cond (decide ((w64 (b.1 - a.1)) < (w64 (a.2.1 - b.1)))) ((rec b.2.2 a.1 b.1 d.1).bind fun p=>(K4 p.length b.2.2.length).bind fun _=>some (.inl (w64 (b.1 + 1),a.2.1,d.1,decide ((w64 (b.1 - a.1)) ≥ (w64 (Int.tdiv (w64 (a.2.1 - a.1)) 8))),b.2.1,p))) ((rec b.2.2 (w64 (b.1 + 1)) a.2.1 d.1).bind fun q=>(K4 q.length b.2.2.length).bind fun _=>some (.inl (a.1,b.1,d.1,decide ((w64 (a.2.1 - b.1)) ≥ (w64 (Int.tdiv (w64 (a.2.1 - a.1)) 8))),b.2.1,q)))) | .inr z=>some (.inr z))))
noncomputable def q8u (rec : List qp→Int→Int→Int→Option (List qp)) (a : qp→qp→Option Int) (b : List qp) (c : Int) (d : Int) (f : Int) : Option (List qp):=
  (loop (q8t a rec) (c,d,f,true,true,b)).bind fun g=>some g
noncomputable def q8s : Nat→(qp→qp→Option Int)→List qp→Int→Int→Int→Option (List qp)
  | 0,_,_,_,_,_=>none
  | n + 1,a,b,c,d,f=>q8u (q8s n a) a b c d f
noncomputable def q83 (c : qp→qp→Option Int) (a : List qp) : Option (List qp):=
  (q1h (IntKind.wrap .u64 (a.length : Int))).bind fun d=>(lim (fun n=>q8s n c a 0 (a.length : Int) d)).bind fun b=>(K4 b.length a.length).bind fun _=>some b
noncomputable def qex (a : List qp) : Option (List qp):=
  some a
noncomputable def q64 (b : List qu) (c : Int × List qp) (a : Int × List qp) : Option ((Int × List qp) ⊕ (List qp)):=
  cond (decide (a.1 < (b.length : Int))) ((idx b a.1).bind fun d=>(app 24 a.2 [({at_:=d.Lo,list_:=c.1,by_:=1} : qp),({at_:=d.Hi,list_:=c.1,by_:=(-1)} : qp)]).bind fun f=>some (.inl (w64 (a.1 + 1),f))) (some (.inr a.2))
noncomputable def q1n (b : List (List qu)) (a : Int × List qp) : Option ((Int × List qp) ⊕ (List qp)):=
  cond (decide (a.1 < (b.length : Int))) (((idx b a.1).bind fun c=>(loop (q64 c a) (0,a.2)).bind fun d=>some d).bind fun f=>some (.inl (w64 (a.1 + 1),f))) (some (.inr a.2))
noncomputable def qc5 (b : List (List qu)) : Option (List (List qu) × List qp):=
  (loop (q1n b) (0,[])).bind fun c=>(q83 (fun f g=>qc4 f g) c).bind fun a=>(K4 a.length c.length).bind fun _=>(qex a).bind fun d=>(K4 d.length a.length).bind fun _=>some (b,d)
noncomputable def qc6 (d : Int) (c : Bool) (b : Int) (a : List qu) : Option (Bool × Int × List qu):=
  (cond (!c) (some true) (some (b == d))).bind fun f=>cond f (some (c,b,a)) ((cond (decide ((a.length : Int) > 0)) ((idx a (w64 ((a.length : Int) - 1))).bind fun g=>some (g.Hi == b)) (some false)).bind fun h=>cond h ((idx a (w64 ((a.length : Int) - 1))).bind fun j=>some (c,b,a.set (w64 ((a.length : Int) - 1)).toNat ({Lo:=j.Lo,Hi:=d} : qu))) ((app 16 a [({Lo:=b,Hi:=d} : qu)]).bind fun k=>some (c,b,k)))
noncomputable def q65 (f : List (List qu) × List qp) (g : Bool→Bool→Option Bool) (a : Int × List Int × Int × Bool × List qu) : Option ((Int × List Int × Int × Bool × List qu) ⊕ (List qu)):=
  cond (decide (a.1 < (f.2.length : Int))) ((idx f.2 a.1).bind fun b=>((qc6 b.at_ a.2.2.2.1 a.2.2.1 a.2.2.2.2).bind fun h=>(idxA 2 a.2.1 b.list_).bind fun c=>(idxA 2 a.2.1 b.list_).bind fun _=>(idxA 2 (a.2.1.set b.list_.toNat (w64 (c + b.by_))) 0).bind fun j=>(idxA 2 (a.2.1.set b.list_.toNat (w64 (c + b.by_))) 1).bind fun k=>(g (decide (j > 0)) (decide (k > 0))).bind fun l=>some (a.2.1.set b.list_.toNat (w64 (c + b.by_)),l,h.2.2)).bind fun d=>some (.inl (w64 (a.1 + 1),d.1,b.at_,d.2.1,d.2.2))) (some (.inr a.2.2.2.2))
noncomputable def q94 (a : List qu) (b : List qu) (d : Bool→Bool→Option Bool) : Option (List qu):=
  (qc5 [a,b]).bind fun c=>(K4 c.1.length [a,b].length).bind fun _=>((loop (q65 c d) (0,[0,0],0,false,[])).bind fun f=>some f).bind fun g=>some g
noncomputable def qc3 (a : Bool) (b : Bool) : Option Bool:=
  some a
noncomputable def q93 (a : List qu) : Option (List qu × Int):=
  cond (decide ((a.length : Int) > 400)) (some ([],4)) ((qb4 a (fun b=>qf0 b)).bind fun c=>cond c (some ([],8)) ((q94 a [] (fun b d=>qc3 b d)).bind fun f=>some (f,0)))
noncomputable def qev (b : List qu) (f : List qu) (a : Int) : Option ((Int) ⊕ ((Unit) ⊕ (Bool))):=
  cond (decide (a < (b.length : Int))) ((idx b a).bind fun c=>(idx f a).bind fun d=>cond (!((c.Lo == d.Lo) && ((c.Hi == d.Hi) && true))) (some (.inr (.inr false))) (some (.inl (w64 (a + 1))))) (some (.inr (.inl ())))
noncomputable def q81 (a : List qu) (b : List qu) : Option Bool:=
  cond ((a.length : Int) != (b.length : Int)) (some false) ((loop (qev a b) 0 : Option ((Unit) ⊕ (Bool))).bind fun c=>(match c with | .inl _=>some true | .inr d=>some d))
noncomputable def q7u (c : Int) (a : Int × List qk) : Option ((Int × List qk) ⊕ (List qk)):=
  cond (decide (a.1 < (a.2.length : Int))) ((idx a.2 a.1).bind fun b=>some (.inl (w64 (a.1 + 1),a.2.set a.1.toNat ({X0:=b.X0,Y0:=b.Y0,X1:=c,Y1:=b.Y1} : qk)))) (some (.inr a.2))
noncomputable def q7v (b : List qu) (f : Int) (c : Int) (g : List qk) (a : Int × List qk) : Option ((Int × List qk) ⊕ (List qu × Int × Int × List qk)):=
  cond (decide (a.1 < (b.length : Int))) ((idx b a.1).bind fun d=>(app 32 a.2 [({X0:=f,Y0:=d.Lo,X1:=c,Y1:=d.Hi} : qk)]).bind fun h=>some (.inl (w64 (a.1 + 1),h))) (some (.inr (b,(g.length : Int),c,a.2)))
noncomputable def qau (a : List qk) (d : List qu) (f : Int) (h : Int) (g : Int) (b : Int) (c : List qu) : Option (List qu × Int × Int × List qk):=
  (cond (decide ((c.length : Int) > 0)) (some (h == g)) (some false)).bind fun j=>(cond j ((q81 d c).bind fun k=>some k) (some false)).bind fun l=>cond l ((loop (q7u b) (f,a)).bind fun m=>some (d,f,b,m)) ((loop (q7v c g b a) (0,a)).bind fun n=>some n)
noncomputable def q47 (b : List qk) (a : Int × List Int) : Option ((Int × List Int) ⊕ (List Int)):=
  cond (decide (a.1 < (b.length : Int))) ((idx b a.1).bind fun c=>(app 8 a.2 [c.X0,c.X1]).bind fun d=>some (.inl (w64 (a.1 + 1),d))) (some (.inr a.2))
noncomputable def q5m (c : List qk) (d : Int) (a : Int × List qu) : Option ((Int × List qu) ⊕ (List qu)):=
  cond (decide (a.1 < (c.length : Int))) (((idx c a.1).bind fun b=>(cond (decide (b.X0≤d)) (some (decide (d < b.X1))) (some false)).bind fun f=>cond f ((app 16 a.2 [({Lo:=b.Y0,Hi:=b.Y1} : qu)]).bind fun g=>some g) (some a.2)).bind fun h=>some (.inl (w64 (a.1 + 1),h))) (some (.inr a.2))
noncomputable def q48 (d : List Int) (g : List qk) (a : Int × List qu × Int × Int × List qk) : Option ((Int × List qu × Int × Int × List qk) ⊕ (List qu × Int × Int × List qk)):=
  cond (decide (a.1 < (d.length : Int))) ((idx d (w64 (a.1 - 1))).bind fun f=>(idx d a.1).bind fun h=>((idx [g] 0).bind fun j=>(loop (q5m j f) (0,[])).bind fun k=>some k).bind fun l=>((q93 l).bind fun m=>(qau a.2.2.2.2 a.2.1 a.2.2.1 a.2.2.2.1 f h m.1).bind fun b=>some (b.1,b.2.1,b.2.2.1,b.2.2.2)).bind fun c=>some (.inl (w64 (a.1 + 1),c.1,c.2.1,c.2.2.1,c.2.2.2))) (some (.inr (a.2.1,a.2.2.1,a.2.2.2.1,a.2.2.2.2)))
noncomputable def qav (d : List qk) : Option (List qk × Int):=
  (((idx [d] 0).bind fun j=>(loop (q47 j) (0,[])).bind fun b=>some b).bind fun f=>(q1m f).bind fun c=>(K4 c.length f.length).bind fun _=>(q4b c).bind fun a=>(K4 a.2.length c.length).bind fun _=>(q4o a.2.length a.1).bind fun _=>some ((a.2.drop a.1.1).take a.1.2)).bind fun k=>((loop (q48 k d) (1,[],0,0,[])).bind fun b=>some b).bind fun g=>(cond (decide ((g.2.2.2.length : Int) > 400)) (some (4,[])) (some (0,g.2.2.2))).bind fun h=>some (h.2,h.1)
noncomputable def q7t (a : List qk) : Option (List qk × Int):=
  cond (decide ((a.length : Int) > 400)) (some ([],4)) ((qb3 a (fun c=>q45 c)).bind fun d=>cond d (some ([],8)) ((qav a).bind fun b=>some (b.1,b.2)))
noncomputable def qet (d : List qk) (f : List qk) (a : Int) : Option ((Int) ⊕ ((Unit) ⊕ (Bool))):=
  cond (decide (a < (d.length : Int))) ((idx d a).bind fun b=>(idx f a).bind fun c=>cond (!((b.X0 == c.X0) && ((b.Y0 == c.Y0) && ((b.X1 == c.X1) && ((b.Y1 == c.Y1) && true))))) (some (.inr (.inr false))) (some (.inl (w64 (a + 1))))) (some (.inr (.inl ())))
noncomputable def qb5 (a : List qk) (b : List qk) : Option Bool:=
  cond ((a.length : Int) != (b.length : Int)) (some false) ((loop (qet a b) 0 : Option ((Unit) ⊕ (Bool))).bind fun c=>(match c with | .inl _=>some true | .inr d=>some d))
noncomputable def q90 (c : Int) (a : Int × List qh) : Option ((Int × List qh) ⊕ (List qh)):=
  cond (decide (a.1 < (a.2.length : Int))) ((idx a.2 a.1).bind fun b=>some (.inl (w64 (a.1 + 1),a.2.set a.1.toNat ({Lo:=b.Lo,Hi:=({X:=b.Hi.X,Y:=b.Hi.Y,Z:=c} : qg)} : qh)))) (some (.inr a.2))
noncomputable def q91 (c : List qk) (f : Int) (d : Int) (g : List qh) (a : Int × List qh) : Option ((Int × List qh) ⊕ (List qk × Int × Int × List qh)):=
  cond (decide (a.1 < (c.length : Int))) ((idx c a.1).bind fun b=>(app 48 a.2 [({Lo:=({X:=b.X0,Y:=b.Y0,Z:=f} : qg),Hi:=({X:=b.X1,Y:=b.Y1,Z:=d} : qg)} : qh)]).bind fun h=>some (.inl (w64 (a.1 + 1),h))) (some (.inr (c,(g.length : Int),d,a.2)))
noncomputable def qbz (a : List qh) (d : List qk) (f : Int) (h : Int) (g : Int) (b : Int) (c : List qk) : Option (List qk × Int × Int × List qh):=
  (cond (decide ((c.length : Int) > 0)) (some (h == g)) (some false)).bind fun j=>(cond j ((qb5 d c).bind fun k=>some k) (some false)).bind fun l=>cond l ((loop (q90 b) (f,a)).bind fun m=>some (d,f,b,m)) ((loop (q91 c g b a) (0,a)).bind fun n=>some n)
noncomputable def q60 (b : List qh) (a : Int × List Int) : Option ((Int × List Int) ⊕ (List Int)):=
  cond (decide (a.1 < (b.length : Int))) ((idx b a.1).bind fun c=>(app 8 a.2 [c.Lo.Z,c.Hi.Z]).bind fun d=>some (.inl (w64 (a.1 + 1),d))) (some (.inr a.2))
noncomputable def q62 (c : List qh) (d : Int) (a : Int × List qk) : Option ((Int × List qk) ⊕ (List qk)):=
  cond (decide (a.1 < (c.length : Int))) (((idx c a.1).bind fun b=>(cond (decide (b.Lo.Z≤d)) (some (decide (d < b.Hi.Z))) (some false)).bind fun f=>cond f ((app 32 a.2 [({X0:=b.Lo.X,Y0:=b.Lo.Y,X1:=b.Hi.X,Y1:=b.Hi.Y} : qk)]).bind fun g=>some g) (some a.2)).bind fun h=>some (.inl (w64 (a.1 + 1),h))) (some (.inr a.2))
noncomputable def q61 (d : List Int) (h : List qh) (a : Int × List qk × Int × Int × List qh) : Option ((Int × List qk × Int × Int × List qh) ⊕ ((List qk × Int × Int × List qh) ⊕ (List qh × Int))):=
  cond (decide (a.1 < (d.length : Int))) ((idx d (w64 (a.1 - 1))).bind fun g=>(idx d a.1).bind fun j=>((idx [h] 0).bind fun k=>(loop (q62 k g) (0,[])).bind fun l=>some l).bind fun m=>((q7t m).bind fun f=>cond (f.2 != 0) (some (.inr ([],f.2))) ((qbz a.2.2.2.2 a.2.1 a.2.2.1 a.2.2.2.1 g j f.1).bind fun b=>some (.inl (b.1,b.2.1,b.2.2.1,b.2.2.2))) : Option ((List qk × Int × Int × List qh) ⊕ (List qh × Int))).bind fun n=>(match n with | .inl c=>some (.inl (w64 (a.1 + 1),c.1,c.2.1,c.2.2.1,c.2.2.2)) | .inr o=>some (.inr (.inr o)))) (some (.inr (.inl (a.2.1,a.2.2.1,a.2.2.2.1,a.2.2.2.2))))
noncomputable def qc1 (f : List qh) : Option (List qh × Int):=
  (((idx [f] 0).bind fun j=>(loop (q60 j) (0,[])).bind fun b=>some b).bind fun g=>(q1m g).bind fun c=>(K4 c.length g.length).bind fun _=>(q4b c).bind fun a=>(K4 a.2.length c.length).bind fun _=>(q4o a.2.length a.1).bind fun _=>some ((a.2.drop a.1.1).take a.1.2)).bind fun k=>((loop (q61 k f) (1,[],0,0,[]) : Option ((List qk × Int × Int × List qh) ⊕ (List qh × Int))).bind fun l=>(match l with | .inl b=>some (.inl b) | .inr d=>some (.inr d)) : Option ((List qk × Int × Int × List qh) ⊕ (List qh × Int))).bind fun m=>(match m with | .inl h=>cond (decide ((h.2.2.2.length : Int) > 400)) (some ([],4)) (some (h.2.2.2,0)) | .inr d=>some d)
noncomputable def qic (d : List qh) (f : List qh) (c : Int) : Option ((Int) ⊕ ((Unit) ⊕ (Bool))):=
  cond (decide (c < (d.length : Int))) ((idx d c).bind fun a=>(idx f c).bind fun b=>cond (!((a.Lo.X == b.Lo.X) && ((a.Lo.Y == b.Lo.Y) && ((a.Lo.Z == b.Lo.Z) && ((a.Hi.X == b.Hi.X) && ((a.Hi.Y == b.Hi.Y) && ((a.Hi.Z == b.Hi.Z) && true))))))) (some (.inr (.inr false))) (some (.inl (w64 (c + 1))))) (some (.inr (.inl ())))
noncomputable def qeu (a : List qh) (b : List qh) : Option Bool:=
  cond ((a.length : Int) != (b.length : Int)) (some false) ((loop (qic a b) 0 : Option ((Unit) ⊕ (Bool))).bind fun c=>(match c with | .inl _=>some true | .inr d=>some d))
noncomputable def q8z (a : List qh) : Option Int:=
  cond (decide ((a.length : Int) > 400)) (some 4) ((Uv a (fun c=>q4f c)).bind fun d=>cond d (some 8) ((qc1 a).bind fun b=>(cond (b.2 != 0) (some true) ((qeu b.1 a).bind fun f=>some (!f))).bind fun g=>cond g (some 8) (some 0)))
noncomputable def q4l (a : qg) (b : Int) : Option Bool:=
  (cond (decide ((min (min a.X a.Y) a.Z) ≥ (w64 (0 - b)))) (some (decide ((max (max a.X a.Y) a.Z)≤b))) (some false)).bind fun c=>some c
noncomputable def q9c (a : qh) : Option Bool:=
  (q4l a.Lo 30).bind fun b=>(cond (!b) (some true) ((q4l a.Hi 30).bind fun c=>some (!c))).bind fun d=>some d
noncomputable def q33 (b : List qh) (a : qg) : Option Int:=
  (q8z b).bind fun c=>cond (c != 0) (some c) ((Uv b (fun d=>q9c d)).bind fun f=>cond f (some 16) ((q4l a 8).bind fun g=>(cond (!g) (some true) (some ((a.X == 0) && ((a.Y == 0) && ((a.Z == 0) && true))))).bind fun h=>cond h (some 2) (some 0)))
noncomputable def q9h : Option (qg × qg × qg × qg × qg × qg):=
  some (({X:=1,Y:=0,Z:=0} : qg),({X:=(-1),Y:=0,Z:=0} : qg),({X:=0,Y:=1,Z:=0} : qg),({X:=0,Y:=(-1),Z:=0} : qg),({X:=0,Y:=0,Z:=1} : qg),({X:=0,Y:=0,Z:=(-1)} : qg))
def Qh (x : qg) : List DV:=[.int .i64 x.X,.int .i64 x.Y,.int .i64 x.Z]
noncomputable def q5y (a : qh) (b : qg) : Option Bool:=
  (cond (decide (a.Lo.X≤b.X)) (some (decide (b.X < a.Hi.X))) (some false)).bind fun c=>(cond c (some (decide (a.Lo.Y≤b.Y))) (some false)).bind fun d=>(cond d (some (decide (b.Y < a.Hi.Y))) (some false)).bind fun f=>(cond f (some (decide (a.Lo.Z≤b.Z))) (some false)).bind fun g=>(cond g (some (decide (b.Z < a.Hi.Z))) (some false)).bind fun h=>some h
noncomputable def q5x (a : List qh) (b : qg) : Option Bool:=
  (Uv a (fun c=>q5y c b)).bind fun d=>some d
noncomputable def q1r (a : qg) (b : qg) : Option qg:=
  some ({X:=w64 (a.X + b.X),Y:=w64 (a.Y + b.Y),Z:=w64 (a.Z + b.Z)} : qg)
structure Yg where
  p_ : qg
  d_ : qg
  deriving DecidableEq
structure Ky where
  num_ : Int
  den_ : Int
  deriving DecidableEq
noncomputable def q1p (a : qg) : Option (Int × Int × Int):=
  some (a.X,a.Y,a.Z)
noncomputable def q4n (a : Ky) (b : Ky) : Option Bool:=
  some (decide ((w64 (a.num_ * b.den_)) < (w64 (b.num_ * a.den_))))
noncomputable def q1q (h : (Int × Int × Int)) (j : (Int × Int × Int)) (c : (Int × Int × Int)) (k : (Int × Int × Int)) (a : Bool × Int × Int × Int × Int × Int) : Option ((Bool × Int × Int × Int × Int × Int) ⊕ ((Int × Int × Int × Int) ⊕ (Ky × Bool))):=
  cond (decide (a.2.1 < 3)) (((idxA 3 [h.1,h.2.1,h.2.2] a.2.1).bind fun f=>(idxA 3 [j.1,j.2.1,j.2.2] a.2.1).bind fun l=>(idxA 3 [c.1,c.2.1,c.2.2] a.2.1).bind fun m=>(idxA 3 [k.1,k.2.1,k.2.2] a.2.1).bind fun n=>(idxA 3 [c.1,c.2.1,c.2.2] a.2.1).bind fun o=>cond (f == 0) ((cond (decide ((w64 ((w64 (2 * l)) - m)) ≥ 0)) (some true) (some (decide ((w64 ((w64 (2 * n)) - o))≤0)))).bind fun p=>cond p (some (.inr (({num_:=0,den_:=0} : Ky),false))) (some (.inl (a.1,a.2.2.1,a.2.2.2.1,a.2.2.2.2.1,a.2.2.2.2.2)))) ((cond (decide (f < 0)) (some (w64 (0 - f),w64 (0 - (w64 ((w64 (2 * n)) - o))),w64 (0 - (w64 ((w64 (2 * l)) - m))))) (some (f,w64 ((w64 (2 * l)) - m),w64 ((w64 (2 * n)) - o)))).bind fun b=>(q4n ({num_:=a.2.2.1,den_:=a.2.2.2.1} : Ky) ({num_:=b.2.1,den_:=w64 (2 * b.1)} : Ky)).bind fun q=>(cond q (some (b.2.1,w64 (2 * b.1))) (some (a.2.2.1,a.2.2.2.1))).bind fun g=>(cond a.1 (some true) ((q4n ({num_:=b.2.2,den_:=w64 (2 * b.1)} : Ky) ({num_:=a.2.2.2.2.1,den_:=a.2.2.2.2.2} : Ky)).bind fun r=>some r)).bind fun s=>cond s (some (.inl (false,g.1,g.2,b.2.2,w64 (2 * b.1)))) (some (.inl (a.1,g.1,g.2,a.2.2.2.2.1,a.2.2.2.2.2)))) : Option ((Bool × Int × Int × Int × Int) ⊕ (Ky × Bool))).bind fun t=>(match t with | .inl d=>some (.inl (d.1,w64 (a.2.1 + 1),d.2.1,d.2.2.1,d.2.2.2.1,d.2.2.2.2)) | .inr u=>some (.inr (.inr u)))) (some (.inr (.inl (a.2.2.1,a.2.2.2.1,a.2.2.2.2.1,a.2.2.2.2.2))))
noncomputable def q9g (b : Yg) (c : qh) : Option (Ky × Bool):=
  (q1p b.p_).bind fun d=>(q1p c.Lo).bind fun f=>(q1p c.Hi).bind fun g=>(q1p b.d_).bind fun h=>(loop (q1q h f d g) (true,0,0,1,0,0) : Option ((Int × Int × Int × Int) ⊕ (Ky × Bool))).bind fun j=>(match j with | .inl a=>(q4n ({num_:=a.1,den_:=a.2.1} : Ky) ({num_:=a.2.2.1,den_:=a.2.2.2} : Ky)).bind fun k=>some (({num_:=a.1,den_:=a.2.1} : Ky),k) | .inr l=>some l)
noncomputable def q9f (a : qh) (b : Yg) : Option Bool:=
  (q9g b a).bind fun c=>some c.2
noncomputable def q4m (a : Yg) (b : List qh) : Option Bool:=
  (Uv b (fun c=>q9f c a)).bind fun d=>some (!d)
noncomputable def q9d (d : List qh) (c : qg) (a : qg) (b : qg) : Option Bool:=
  cond (decide ((w64 ((w64 ((w64 (a.X * b.X)) + (w64 (a.Y * b.Y)))) + (w64 (a.Z * b.Z))))≤0)) (some false) ((q1r c c).bind fun f=>(q1r ({X:=1,Y:=1,Z:=1} : qg) a).bind fun g=>(q1r f g).bind fun h=>(q4m ({p_:=h,d_:=b} : Yg) d).bind fun j=>some j)
noncomputable def Uy (b : List qh) (c : qg) (d : Int) (f : qg) : Option (Bool × Int):=
  (q33 b f).bind fun g=>cond (g != 0) (some (false,g)) (cond (decide (d > 5)) (some (false,2)) (q9h.bind fun a=>(idxA 6 [a.1,a.2.1,a.2.2.1,a.2.2.2.1,a.2.2.2.2.1,a.2.2.2.2.2] d).bind fun h=>(q5x b c).bind fun j=>(cond (!j) (some true) ((q1r c h).bind fun k=>(q5x b k).bind fun l=>some l)).bind fun m=>cond m (some (false,6)) ((q9d b c h f).bind fun n=>some (n,0))))
noncomputable def q76 (a : qg) (b : Int) : Option Bool:=
  (cond (decide (a.X ≥ b)) (some (decide (a.Y ≥ b))) (some false)).bind fun c=>(cond c (some (decide (a.Z ≥ b))) (some false)).bind fun d=>(cond d (some (decide (a.X≤1000000))) (some false)).bind fun f=>(cond f (some (decide (a.Y≤1000000))) (some false)).bind fun g=>(cond g (some (decide (a.Z≤1000000))) (some false)).bind fun h=>some h
noncomputable def qal (a : qh) : Option Bool:=
  (q76 a.Lo (-1000000)).bind fun b=>(cond b ((q76 a.Hi (-1000000)).bind fun c=>some c) (some false)).bind fun d=>(cond d (some (decide (a.Lo.X < a.Hi.X))) (some false)).bind fun f=>(cond f (some (decide (a.Lo.Y < a.Hi.Y))) (some false)).bind fun g=>(cond g (some (decide (a.Lo.Z < a.Hi.Z))) (some false)).bind fun h=>some h
noncomputable def q5d (b : Int × List Int) (c : List Int) (a : Int) : Option ((Int) ⊕ (Int)):=
  (cond (decide (a > 0)) ((idx b.2 (w64 (a - 1))).bind fun d=>(idx c b.1).bind fun f=>some (decide (d > f))) (some false)).bind fun g=>cond g (some (.inl (w64 (a - 1)))) (some (.inr a))
noncomputable def q5c (d : List Int) (a : Int × List Int) : Option ((Int × List Int) ⊕ (List Int)):=
  cond (decide (a.1 < (d.length : Int))) (((loop (q5d a d) (a.2.length : Int)).bind fun c=>(cond (decide (c > 0)) ((idx a.2 (w64 (c - 1))).bind fun h=>(idx d a.1).bind fun j=>some (h == j)) (some false)).bind fun k=>cond k (some a.2) ((app 8 a.2 [0]).bind fun b=>(sub2 b.length (w64 (c + 1)) b.length).bind fun g=>(sub2 b.length c b.length).bind fun f=>(idx d a.1).bind fun l=>(idx (cpyw b g ((b.drop f.1).take f.2)) c).bind fun _=>some ((cpyw b g ((b.drop f.1).take f.2)).set c.toNat l))).bind fun m=>some (.inl (w64 (a.1 + 1),m))) (some (.inr a.2))
noncomputable def J3 (a : List Int) : Option (List Int):=
  (loop (q5c a) (0,[])).bind fun b=>some b
noncomputable def q5g (b : List qh) (a : Int × List Int) : Option ((Int × List Int) ⊕ (List Int)):=
  cond (decide (a.1 < (b.length : Int))) ((idx b a.1).bind fun c=>(idx b a.1).bind fun d=>(app 8 a.2 [c.Lo.Z,d.Hi.Z]).bind fun f=>some (.inl (w64 (a.1 + 1),f))) (some (.inr a.2))
noncomputable def q5h (b : List qh) (a : Int × List Int) : Option ((Int × List Int) ⊕ (List Int)):=
  cond (decide (a.1 < (b.length : Int))) ((idx b a.1).bind fun c=>(idx b a.1).bind fun d=>(app 8 a.2 [c.Lo.Z,d.Hi.Z]).bind fun f=>some (.inl (w64 (a.1 + 1),f))) (some (.inr a.2))
noncomputable def qah (a : List qh) (b : List qh) : Option (List Int):=
  (loop (q5g a) (0,[])).bind fun c=>(loop (q5h b) (0,c)).bind fun d=>(J3 d).bind fun f=>some f
noncomputable def q77 (b : List qh) (c : Int) (a : Int × List qk) : Option ((Int × List qk) ⊕ (List qk)):=
  cond (decide (a.1 < (b.length : Int))) (((idx b a.1).bind fun d=>(cond (decide (d.Lo.Z≤c)) ((idx b a.1).bind fun f=>some (decide (c < f.Hi.Z))) (some false)).bind fun g=>cond g ((idx b a.1).bind fun h=>(idx b a.1).bind fun j=>(idx b a.1).bind fun k=>(idx b a.1).bind fun l=>(app 32 a.2 [({X0:=h.Lo.X,Y0:=j.Lo.Y,X1:=k.Hi.X,Y1:=l.Hi.Y} : qk)]).bind fun m=>some m) (some a.2)).bind fun n=>some (.inl (w64 (a.1 + 1),n))) (some (.inr a.2))
noncomputable def U8 (a : List qh) (b : Int) : Option (List qk):=
  (loop (q77 a b) (0,[])).bind fun c=>some c
noncomputable def Uo (b : List qk) (a : Int × List Int) : Option ((Int × List Int) ⊕ (List Int)):=
  cond (decide (a.1 < (b.length : Int))) ((idx b a.1).bind fun c=>(idx b a.1).bind fun d=>(app 8 a.2 [c.X0,d.X1]).bind fun f=>some (.inl (w64 (a.1 + 1),f))) (some (.inr a.2))
noncomputable def Up (b : List qk) (a : Int × List Int) : Option ((Int × List Int) ⊕ (List Int)):=
  cond (decide (a.1 < (b.length : Int))) ((idx b a.1).bind fun c=>(idx b a.1).bind fun d=>(app 8 a.2 [c.X0,d.X1]).bind fun f=>some (.inl (w64 (a.1 + 1),f))) (some (.inr a.2))
noncomputable def q5e (a : List qk) (b : List qk) : Option (List Int):=
  (loop (Uo a) (0,[])).bind fun c=>(loop (Up b) (0,c)).bind fun d=>(J3 d).bind fun f=>some f
noncomputable def Uq (b : List qk) (a : Int × List Int) : Option ((Int × List Int) ⊕ (List Int)):=
  cond (decide (a.1 < (b.length : Int))) ((idx b a.1).bind fun c=>(idx b a.1).bind fun d=>(app 8 a.2 [c.Y0,d.Y1]).bind fun f=>some (.inl (w64 (a.1 + 1),f))) (some (.inr a.2))
noncomputable def Ur (b : List qk) (a : Int × List Int) : Option ((Int × List Int) ⊕ (List Int)):=
  cond (decide (a.1 < (b.length : Int))) ((idx b a.1).bind fun c=>(idx b a.1).bind fun d=>(app 8 a.2 [c.Y0,d.Y1]).bind fun f=>some (.inl (w64 (a.1 + 1),f))) (some (.inr a.2))
noncomputable def q5f (a : List qk) (b : List qk) : Option (List Int):=
  (loop (Uq a) (0,[])).bind fun c=>(loop (Ur b) (0,c)).bind fun d=>(J3 d).bind fun f=>some f
noncomputable def q3y (b : List qk) (c : Int) (d : Int) (a : Int) : Option ((Int) ⊕ ((Unit) ⊕ (Bool))):=
  cond (decide (a < (b.length : Int))) ((idx b a).bind fun f=>(cond (decide (f.X0≤c)) ((idx b a).bind fun g=>some (decide (c < g.X1))) (some false)).bind fun h=>(cond h ((idx b a).bind fun j=>some (decide (j.Y0≤d))) (some false)).bind fun k=>(cond k ((idx b a).bind fun l=>some (decide (d < l.Y1))) (some false)).bind fun m=>cond m (some (.inr (.inr true))) (some (.inl (w64 (a + 1))))) (some (.inr (.inl ())))
noncomputable def q74 (a : List qk) (b : Int) (c : Int) : Option Bool:=
  (loop (q3y a b c) 0 : Option ((Unit) ⊕ (Bool))).bind fun d=>(match d with | .inl _=>some false | .inr f=>some f)
noncomputable def q73 (c : Int) (a : Bool) (b : Bool) : Option Bool:=
  cond (c == 1) ((cond a (some b) (some false)).bind fun d=>some d) (cond (c == 2) ((cond a (some true) (some b)).bind fun f=>some f) ((cond a (some (!b)) (some false)).bind fun g=>some g))
noncomputable def q5b (b : List Int) (c : List Bool) (a : Int × List qu) : Option ((Int × List qu) ⊕ (List qu)):=
  cond (decide ((w64 (a.1 + 1)) < (b.length : Int))) (((idx c a.1).bind fun d=>cond (!d) (some a.2) ((cond (decide ((a.2.length : Int) > 0)) ((idx a.2 (w64 ((a.2.length : Int) - 1))).bind fun f=>(idx b a.1).bind fun g=>some (f.Hi == g)) (some false)).bind fun h=>cond h ((idx b (w64 (a.1 + 1))).bind fun j=>(idx a.2 (w64 ((a.2.length : Int) - 1))).bind fun k=>some (a.2.set (w64 ((a.2.length : Int) - 1)).toNat ({Lo:=k.Lo,Hi:=j} : qu))) ((idx b a.1).bind fun l=>(idx b (w64 (a.1 + 1))).bind fun m=>(app 16 a.2 [({Lo:=l,Hi:=m} : qu)]).bind fun n=>some n))).bind fun o=>some (.inl (w64 (a.1 + 1),o))) (some (.inr a.2))
noncomputable def q3w (a : List Int) (b : List Bool) : Option (List qu):=
  (loop (q5b a b) (0,[])).bind fun c=>some c
noncomputable def qe4 (b : List qu) (f : List qu) (a : Int) : Option ((Int) ⊕ ((Unit) ⊕ (Bool))):=
  cond (decide (a < (b.length : Int))) ((idx b a).bind fun c=>(idx f a).bind fun d=>cond (!((c.Lo == d.Lo) && ((c.Hi == d.Hi) && true))) (some (.inr (.inr false))) (some (.inl (w64 (a + 1))))) (some (.inr (.inl ())))
noncomputable def q3x (a : List qu) (b : List qu) : Option Bool:=
  cond ((a.length : Int) != (b.length : Int)) (some false) ((loop (qe4 a b) 0 : Option ((Unit) ⊕ (Bool))).bind fun c=>(match c with | .inl _=>some true | .inr d=>some d))
noncomputable def Um (b : List Int) (c : List Int) (d : List qu × Int × Int × List qk) (f : List qk) (g : List qk) (h : Int) (a : Int × List Bool) : Option ((Int × List Bool) ⊕ (List Bool)):=
  cond (decide (a.1 < (b.length : Int))) ((idx c d.2.2.1).bind fun j=>(idx b a.1).bind fun k=>(q74 f j k).bind fun l=>(idx c d.2.2.1).bind fun m=>(idx b a.1).bind fun n=>(q74 g m n).bind fun o=>(q73 h l o).bind fun p=>(app 1 a.2 [p]).bind fun q=>some (.inl (w64 (a.1 + 1),q))) (some (.inr a.2))
noncomputable def Un (c : List Int) (d : List qu × Int × Int × List qk) (a : Int × List qk) : Option ((Int × List qk) ⊕ (List qk)):=
  cond (decide (a.1 < (a.2.length : Int))) ((idx c (w64 (d.2.2.1 + 1))).bind fun f=>(idx a.2 a.1).bind fun b=>some (.inl (w64 (a.1 + 1),a.2.set a.1.toNat ({X0:=b.X0,Y0:=b.Y0,X1:=f,Y1:=b.Y1} : qk)))) (some (.inr a.2))
noncomputable def q2i (b : List qu) (d : List Int) (c : List qu × Int × Int × List qk) (a : Int × List qk) : Option ((Int × List qk) ⊕ (List qu × Int × List qk)):=
  cond (decide (a.1 < (b.length : Int))) ((idx d c.2.2.1).bind fun f=>(idx b a.1).bind fun g=>(idx d (w64 (c.2.2.1 + 1))).bind fun h=>(idx b a.1).bind fun j=>(app 32 a.2 [({X0:=f,Y0:=g.Lo,X1:=h,Y1:=j.Hi} : qk)]).bind fun k=>some (.inl (w64 (a.1 + 1),k))) (some (.inr (b,(c.2.2.2.length : Int),a.2)))
noncomputable def Jn (b : List Int) (d : List Int) (g : List qk) (h : List qk) (j : Int) (a : List qu × Int × Int × List qk) : Option ((List qu × Int × Int × List qk) ⊕ (List qk)):=
  cond (decide ((w64 (a.2.2.1 + 1)) < (b.length : Int))) (((loop (Um d b a g h j) (0,[])).bind fun k=>(q3w d k).bind fun f=>(cond (decide (a.2.2.1 > 0)) ((q3x f a.1).bind fun l=>some l) (some false)).bind fun m=>cond m ((loop (Un b a) (a.2.1,a.2.2.2)).bind fun n=>some (a.1,a.2.1,n)) ((loop (q2i f b a) (0,a.2.2.2)).bind fun o=>some o)).bind fun c=>some (.inl (c.1,c.2.1,w64 (a.2.2.1 + 1),c.2.2))) (some (.inr a.2.2.2))
noncomputable def Zo (c : Int) (a : List qk) (b : List qk) : Option (List qk):=
  (q5e a b).bind fun d=>(q5f a b).bind fun f=>(loop (Jn d f a b c) ([],0,0,[])).bind fun g=>some g
noncomputable def qe7 (d : List qk) (f : List qk) (a : Int) : Option ((Int) ⊕ ((Unit) ⊕ (Bool))):=
  cond (decide (a < (d.length : Int))) ((idx d a).bind fun b=>(idx f a).bind fun c=>cond (!((b.X0 == c.X0) && ((b.Y0 == c.Y0) && ((b.X1 == c.X1) && ((b.Y1 == c.Y1) && true))))) (some (.inr (.inr false))) (some (.inl (w64 (a + 1))))) (some (.inr (.inl ())))
noncomputable def q2j (a : List qk) (b : List qk) : Option Bool:=
  cond ((a.length : Int) != (b.length : Int)) (some false) ((loop (qe7 a b) 0 : Option ((Unit) ⊕ (Bool))).bind fun c=>(match c with | .inl _=>some true | .inr d=>some d))
noncomputable def q5j (c : List Int) (d : List qk × Int × Int × List qh) (a : Int × List qh) : Option ((Int × List qh) ⊕ (List qh)):=
  cond (decide (a.1 < (a.2.length : Int))) ((idx c (w64 (d.2.2.1 + 1))).bind fun f=>(idx a.2 a.1).bind fun b=>some (.inl (w64 (a.1 + 1),a.2.set a.1.toNat ({Lo:=b.Lo,Hi:=({X:=b.Hi.X,Y:=b.Hi.Y,Z:=f} : qg)} : qh)))) (some (.inr a.2))
noncomputable def q7c (b : List qk) (d : List Int) (c : List qk × Int × Int × List qh) (a : Int × List qh) : Option ((Int × List qh) ⊕ (List qk × Int × List qh)):=
  cond (decide (a.1 < (b.length : Int))) ((idx b a.1).bind fun f=>(idx b a.1).bind fun g=>(idx d c.2.2.1).bind fun h=>(idx b a.1).bind fun j=>(idx b a.1).bind fun k=>(idx d (w64 (c.2.2.1 + 1))).bind fun l=>(app 48 a.2 [({Lo:=({X:=f.X0,Y:=g.Y0,Z:=h} : qg),Hi:=({X:=j.X1,Y:=k.Y1,Z:=l} : qg)} : qh)]).bind fun m=>some (.inl (w64 (a.1 + 1),m))) (some (.inr (b,(c.2.2.2.length : Int),a.2)))
noncomputable def q2k (b : List Int) (f : List qh) (g : List qh) (h : Int) (a : List qk × Int × Int × List qh) : Option ((List qk × Int × Int × List qh) ⊕ ((List qh) ⊕ (List qh × Bool))):=
  cond (decide ((w64 (a.2.2.1 + 1)) < (b.length : Int))) (((idx b a.2.2.1).bind fun j=>(U8 f j).bind fun k=>(idx b a.2.2.1).bind fun l=>(U8 g l).bind fun m=>(Zo h k m).bind fun c=>(cond (decide ((c.length : Int) > 400)) (some true) ((idx b a.2.2.1).bind fun n=>(U8 f n).bind fun o=>(Zo 2 o []).bind fun p=>some (decide ((p.length : Int) > 400)))).bind fun q=>(cond q (some true) ((idx b a.2.2.1).bind fun r=>(U8 g r).bind fun s=>(Zo 2 s []).bind fun t=>some (decide ((t.length : Int) > 400)))).bind fun u=>cond u (some (.inr ([],false))) ((cond (decide (a.2.2.1 > 0)) ((q2j c a.1).bind fun v=>some v) (some false)).bind fun x=>cond x ((loop (q5j b a) (a.2.1,a.2.2.2)).bind fun y=>some (.inl (a.1,a.2.1,y))) ((loop (q7c c b a) (0,a.2.2.2)).bind fun z=>some (.inl z))) : Option ((List qk × Int × List qh) ⊕ (List qh × Bool))).bind fun aa=>(match aa with | .inl d=>some (.inl (d.1,d.2.1,w64 (a.2.2.1 + 1),d.2.2)) | .inr x1=>some (.inr (.inr x1)))) (some (.inr (.inl a.2.2.2)))
noncomputable def q5i (d : Int) (a : List qh) (b : List qh) : Option (List qh × Bool):=
  (qah a b).bind fun f=>(loop (q2k f a b d) ([],0,0,[]) : Option ((List qh) ⊕ (List qh × Bool))).bind fun g=>(match g with | .inl c=>some (c,decide ((c.length : Int)≤400)) | .inr h=>some h)
noncomputable def qed (d : List qh) (f : List qh) (c : Int) : Option ((Int) ⊕ ((Unit) ⊕ (Bool))):=
  cond (decide (c < (d.length : Int))) ((idx d c).bind fun a=>(idx f c).bind fun b=>cond (!((a.Lo.X == b.Lo.X) && ((a.Lo.Y == b.Lo.Y) && ((a.Lo.Z == b.Lo.Z) && ((a.Hi.X == b.Hi.X) && ((a.Hi.Y == b.Hi.Y) && ((a.Hi.Z == b.Hi.Z) && true))))))) (some (.inr (.inr false))) (some (.inl (w64 (c + 1))))) (some (.inr (.inl ())))
noncomputable def qaj (a : List qh) (b : List qh) : Option Bool:=
  cond ((a.length : Int) != (b.length : Int)) (some false) ((loop (qed a b) 0 : Option ((Unit) ⊕ (Bool))).bind fun c=>(match c with | .inl _=>some true | .inr d=>some d))
noncomputable def q79 (b : List qh) (a : Int) : Option ((Int) ⊕ ((Unit) ⊕ (Int))):=
  cond (decide (a < (b.length : Int))) ((idx b a).bind fun c=>(qal c).bind fun d=>cond (!d) (some (.inr (.inr 8))) (some (.inl (w64 (a + 1))))) (some (.inr (.inl ())))
noncomputable def q78 (a : List qh) : Option Int:=
  cond (decide ((a.length : Int) > 400)) (some 4) ((loop (q79 a) 0 : Option ((Unit) ⊕ (Int))).bind fun c=>(match c with | .inl _=>(q5i 2 a []).bind fun b=>(cond (!b.2) (some true) ((qaj b.1 a).bind fun d=>some (!d))).bind fun f=>cond f (some 8) (some 0) | .inr g=>some g))
noncomputable def q7e (b : List qh) (a : Int) : Option ((Int) ⊕ ((Unit) ⊕ (Int))):=
  cond (decide (a < (b.length : Int))) ((idx b a).bind fun c=>(q1l c.Lo 30).bind fun d=>(cond (!d) (some true) ((idx b a).bind fun f=>(q1l f.Hi 30).bind fun g=>some (!g))).bind fun h=>cond h (some (.inr (.inr 16))) (some (.inl (w64 (a + 1))))) (some (.inr (.inl ())))
noncomputable def Us (b : List qh) (a : qg) : Option Int:=
  (q78 b).bind fun c=>cond (c != 0) ((q78 b).bind fun d=>some d) ((loop (q7e b) 0 : Option ((Unit) ⊕ (Int))).bind fun f=>(match f with | .inl _=>(q1l a 8).bind fun g=>(cond (!g) (some true) ((cond (a.X == 0) (some (a.Y == 0)) (some false)).bind fun h=>(cond h (some (a.Z == 0)) (some false)).bind fun j=>some j)).bind fun k=>cond k (some 2) (some 0) | .inr l=>some l))
noncomputable def qai (a : qh) (b : qg) : Option Bool:=
  (cond (decide (a.Lo.X≤b.X)) (some (decide (b.X < a.Hi.X))) (some false)).bind fun c=>(cond c (some (decide (a.Lo.Y≤b.Y))) (some false)).bind fun d=>(cond d (some (decide (b.Y < a.Hi.Y))) (some false)).bind fun f=>(cond f (some (decide (a.Lo.Z≤b.Z))) (some false)).bind fun g=>(cond g (some (decide (b.Z < a.Hi.Z))) (some false)).bind fun h=>some h
noncomputable def q7b (b : List qh) (c : qg) (a : Int) : Option ((Int) ⊕ ((Unit) ⊕ (Bool))):=
  cond (decide (a < (b.length : Int))) ((idx b a).bind fun d=>(qai d c).bind fun f=>cond f (some (.inr (.inr true))) (some (.inl (w64 (a + 1))))) (some (.inr (.inl ())))
noncomputable def q7a (a : List qh) (b : qg) : Option Bool:=
  (loop (q7b a b) 0 : Option ((Unit) ⊕ (Bool))).bind fun c=>(match c with | .inl _=>some false | .inr d=>some d)
noncomputable def qag (a : Int) : Option qg:=
  (cond ((Int.tmod a 2) == 1) (some (-1)) (some 1)).bind fun b=>cond (decide (a < 2)) (some ({X:=b,Y:=0,Z:=0} : qg)) (cond (decide (a < 4)) (some ({X:=0,Y:=b,Z:=0} : qg)) (some ({X:=0,Y:=0,Z:=b} : qg)))
noncomputable def q3z (a : qg) (b : qg) : Option qg:=
  some ({X:=w64 (a.X + b.X),Y:=w64 (a.Y + b.Y),Z:=w64 (a.Z + b.Z)} : qg)
noncomputable def q7f (a : List qh) (b : qg) (c : Int) : Option Bool:=
  (q7a a b).bind fun d=>(cond d ((qag c).bind fun f=>(q3z b f).bind fun g=>(q7a a g).bind fun h=>some (!h)) (some false)).bind fun j=>some j
noncomputable def qe9 (a : qg) (b : qg) : Option Int:=
  some (w64 ((w64 ((w64 (a.X * b.X)) + (w64 (a.Y * b.Y)))) + (w64 (a.Z * b.Z))))
noncomputable def qea (a : Int) (b : qg) : Option qg:=
  some ({X:=w64 (a * b.X),Y:=w64 (a * b.Y),Z:=w64 (a * b.Z)} : qg)
structure Qr where
  Num : Int
  Den : Int
  deriving DecidableEq
noncomputable def q72 (a : Int × Int) : Option ((Int × Int) ⊕ (Int)):=
  cond (a.2 != 0) ((qek a.1 a.2).bind fun b=>some (.inl (a.2,b))) (some (.inr a.1))
noncomputable def q5a (b : Int) (c : Int) : Option Int:=
  (loop q72 (b,c)).bind fun a=>cond (decide (a < 0)) (some (w64 (0 - a))) (some a)
noncomputable def q2h (a : Qr) : Option Int:=
  (cond (decide (a.Den < 1)) (some true) (some (decide (a.Den > 1000000000)))).bind fun b=>(cond b (some true) (some (decide (a.Num < (-1000000000))))).bind fun c=>(cond c (some true) (some (decide (a.Num > 1000000000)))).bind fun d=>(cond d (some true) ((q5a a.Num a.Den).bind fun f=>some (f != 1))).bind fun g=>cond g (some 8) (some 0)
noncomputable def q3v (b : Int) (a : Int) : Option (Qr × Int):=
  cond (a == 0) (some (({Num:=0,Den:=0} : Qr),18)) ((cond (b == (-9223372036854775808)) (some (a == (-9223372036854775808))) (some false)).bind fun h=>cond h (some (({Num:=1,Den:=1} : Qr),0)) ((cond (b == (-9223372036854775808)) (some true) (some (a == (-9223372036854775808)))).bind fun j=>cond j ((cond ((Int.tmod b 2) == 0) (some ((Int.tmod a 2) == 0)) (some false)).bind fun k=>cond k none (some (({Num:=0,Den:=0} : Qr),16))) ((cond (decide (a < 0)) (some (w64 (0 - b),w64 (0 - a))) (some (b,a))).bind fun c=>(q5a c.1 c.2).bind fun d=>(J2 c.1 d).bind fun f=>(J2 c.2 d).bind fun g=>(q2h ({Num:=f,Den:=g} : Qr)).bind fun l=>cond (l != 0) (some (({Num:=0,Den:=0} : Qr),16)) (some (({Num:=f,Den:=g} : Qr),0)))))
noncomputable def q44 (a : Int) (b : Int) : Option Qr:=
  (q3v a b).bind fun c=>some c.1
def Kp (x : Qr) : List DV:=[.int .i64 x.Num,.int .i64 x.Den]
noncomputable def Ya (a : qg) (b : Int) : Option Int:=
  cond (b == 0) (some a.X) (cond (b == 1) (some a.Y) (some a.Z))
noncomputable def q71 (a : Qr) (b : Qr) : Option Bool:=
  some (decide ((w64 (a.Num * b.Den)) < (w64 (b.Num * a.Den))))
noncomputable def Ut (b : Qr) (a : Int × List Qr) : Option ((Int × List Qr) ⊕ (Int × List Qr)):=
  (cond (decide (a.1 > 0)) ((idx a.2 (w64 (a.1 - 1))).bind fun c=>(q71 b c).bind fun d=>some d) (some false)).bind fun f=>cond f ((idx a.2 (w64 (a.1 - 1))).bind fun g=>(idx a.2 a.1).bind fun _=>some (.inl (w64 (a.1 - 1),a.2.set a.1.toNat g))) (some (.inr (a.1,a.2)))
noncomputable def q7o (f : qh) (d : Int × List Qr) (g : qg) (h : Int) (a : Int × List Qr) : Option ((Int × List Qr) ⊕ (List Qr)):=
  cond (decide (a.1 < 2)) (((Ya f.Lo d.1).bind fun j=>(cond (a.1 == 1) ((Ya f.Hi d.1).bind fun k=>some k) (some j)).bind fun l=>(Ya g d.1).bind fun m=>(q44 (w64 ((w64 (2 * l)) - m)) (w64 (2 * h))).bind fun b=>cond (decide (b.Num≤0)) (some a.2) ((app 16 a.2 [b]).bind fun n=>(loop (Ut b) ((a.2.length : Int),n)).bind fun c=>(idx c.2 c.1).bind fun _=>some (c.2.set c.1.toNat b))).bind fun o=>some (.inl (w64 (a.1 + 1),o))) (some (.inr a.2))
noncomputable def q7n (c : qg) (d : qh) (f : qg) (a : Int × List Qr) : Option ((Int × List Qr) ⊕ (List Qr)):=
  cond (decide (a.1 < 3)) (((Ya c a.1).bind fun b=>cond (b == 0) (some a.2) ((loop (q7o d a f b) (0,a.2)).bind fun g=>some g)).bind fun h=>some (.inl (w64 (a.1 + 1),h))) (some (.inr a.2))
noncomputable def qar (a : qh) (b : qg) (c : qg) : Option (List Qr):=
  (q44 0 1).bind fun d=>(loop (q7n c a b) (0,[d])).bind fun f=>some f
noncomputable def q3u (a : Qr) (b : Qr) : Option Int:=
  (q2h a).bind fun c=>cond (c != 0) ((q2h a).bind fun d=>some d) ((q2h b).bind fun f=>some f)
noncomputable def q59 (a : Qr) (b : Qr) : Option (Qr × Int):=
  (q3u a b).bind fun d=>cond (d != 0) ((q3u a b).bind fun f=>some (({Num:=0,Den:=0} : Qr),f)) ((q3v (w64 ((w64 (a.Num * b.Den)) + (w64 (b.Num * a.Den)))) (w64 (a.Den * b.Den))).bind fun c=>some (c.1,c.2))
noncomputable def qab (a : Qr) (b : Qr) : Option (Qr × Int):=
  (q3u a b).bind fun d=>cond (d != 0) ((q3u a b).bind fun f=>some (({Num:=0,Den:=0} : Qr),f)) ((q3v (w64 (a.Num * b.Num)) (w64 (a.Den * b.Den))).bind fun c=>some (c.1,c.2))
noncomputable def q7k (g : qg) (h : qg) (c : qh) (a : Qr) (b : Int) : Option ((Int) ⊕ ((Unit) ⊕ (Bool))):=
  cond (decide (b < 3)) ((Ya g b).bind fun d=>(Ya h b).bind fun f=>(Ya c.Lo b).bind fun j=>(Ya c.Hi b).bind fun k=>(cond (decide ((w64 ((w64 (d * a.Den)) + (w64 ((w64 (2 * f)) * a.Num))))≤(w64 ((w64 (2 * j)) * a.Den)))) (some true) (some (decide ((w64 ((w64 (d * a.Den)) + (w64 ((w64 (2 * f)) * a.Num)))) ≥ (w64 ((w64 (2 * k)) * a.Den)))))).bind fun l=>cond l (some (.inr (.inr false))) (some (.inl (w64 (b + 1))))) (some (.inr (.inl ())))
noncomputable def q7j (a : qh) (b : qg) (c : qg) (d : Qr) : Option Bool:=
  (loop (q7k b c a d) 0 : Option ((Unit) ⊕ (Bool))).bind fun f=>(match f with | .inl _=>some true | .inr g=>some g)
noncomputable def q40 (b : List Qr) (g : qh) (h : qg) (j : qg) (a : Int) : Option ((Int) ⊕ ((Unit) ⊕ (Qr × Bool))):=
  cond (decide (a < (b.length : Int))) ((idx b a).bind fun k=>(q44 1 1).bind fun l=>(q59 k l).bind fun c=>(cond (decide ((w64 (a + 1)) < (b.length : Int))) ((idx b (w64 (a + 1))).bind fun d=>some (d.Num,d.Den)) (some (c.1.Num,c.1.Den))).bind fun f=>(idx b a).bind fun m=>(q59 m ({Num:=f.1,Den:=f.2} : Qr)).bind fun n=>(q44 1 2).bind fun o=>(qab n.1 o).bind fun p=>(q7j g h j p.1).bind fun q=>cond q ((idx b a).bind fun r=>some (.inr (.inr (r,true)))) (some (.inl (w64 (a + 1))))) (some (.inr (.inl ())))
noncomputable def q7g (a : qh) (b : qg) (c : qg) : Option (Qr × Bool):=
  (qar a b c).bind fun d=>(loop (q40 d a b c) 0 : Option ((Unit) ⊕ (Qr × Bool))).bind fun f=>(match f with | .inl _=>some (({Num:=0,Den:=0} : Qr),false) | .inr g=>some g)
noncomputable def q7d (b : List qh) (c : qg) (d : qg) (a : Int) : Option ((Int) ⊕ ((Unit) ⊕ (Bool))):=
  cond (decide (a < (b.length : Int))) ((idx b a).bind fun f=>(q7g f c d).bind fun g=>cond g.2 (some (.inr (.inr true))) (some (.inl (w64 (a + 1))))) (some (.inr (.inl ())))
noncomputable def qam (a : List qh) (b : qg) (c : qg) : Option Bool:=
  (loop (q7d a b c) 0 : Option ((Unit) ⊕ (Bool))).bind fun d=>(match d with | .inl _=>some false | .inr f=>some f)
noncomputable def q7l (c : List qh) (d : qg) (f : Int) (a : qg) : Option Bool:=
  (qag f).bind fun b=>(qe9 b a).bind fun g=>cond (decide (g≤0)) (some false) ((qea 2 d).bind fun h=>(q3z ({X:=1,Y:=1,Z:=1} : qg) b).bind fun j=>(q3z h j).bind fun k=>(qam c k a).bind fun l=>some (!l))
noncomputable def qap (a : List qh) (d : qg) (b : Int) (c : qg) : Option (Bool × Int):=
  (Us a c).bind fun f=>cond (f != 0) ((Us a c).bind fun g=>some (false,g)) (cond (decide (b > 5)) (some (false,2)) ((q7f a d (w64 b)).bind fun h=>cond (!h) (some (false,6)) ((q7l a d (w64 b) c).bind fun j=>some (j,0))))
noncomputable def q31 (b : (qg × qg × qg × qg × qg × qg)) (c : Int × Int × Int) (d : Int × Int × Int) (f : Int × Int × Int) (g : List qh) (k : qg) (a : Int × Int × Int) : Option ((Int × Int × Int) ⊕ (Int × Int)):=
  cond (decide (a.1 < 6)) (((idxA 6 [b.1,b.2.1,b.2.2.1,b.2.2.2.1,b.2.2.2.2.1,b.2.2.2.2.2] a.1).bind fun h=>(q1r ({X:=c.1,Y:=d.1,Z:=f.1} : qg) h).bind fun l=>(q5x g l).bind fun m=>cond m (some (a.2.1,a.2.2)) ((q9d g ({X:=c.1,Y:=d.1,Z:=f.1} : qg) h k).bind fun n=>cond n (some (w64 (a.2.1 + 1),a.2.2)) (some (a.2.1,w64 (a.2.2 + 1))))).bind fun j=>some (.inl (w64 (a.1 + 1),j.1,j.2))) (some (.inr (a.2.1,a.2.2)))
noncomputable def q30 (c : qh) (d : Int × Int × Int) (f : Int × Int × Int) (g : List qh) (h : qg) (a : Int × Int × Int) : Option ((Int × Int × Int) ⊕ (Int × Int)):=
  cond (decide (a.1 < c.Hi.Z)) ((q9h.bind fun j=>(loop (q31 j d f a g h) (0,a.2.1,a.2.2)).bind fun k=>some k).bind fun b=>some (.inl (w64 (a.1 + 1),b.1,b.2))) (some (.inr (a.2.1,a.2.2)))
noncomputable def q2z (b : qh) (d : Int × Int × Int) (f : List qh) (g : qg) (a : Int × Int × Int) : Option ((Int × Int × Int) ⊕ (Int × Int)):=
  cond (decide (a.1 < b.Hi.Y)) (((loop (q30 b d a f g) (b.Lo.Z,a.2.1,a.2.2)).bind fun h=>some h).bind fun c=>some (.inl (w64 (a.1 + 1),c.1,c.2))) (some (.inr (a.2.1,a.2.2)))
noncomputable def q2y (b : qh) (d : List qh) (f : qg) (a : Int × Int × Int) : Option ((Int × Int × Int) ⊕ (Int × Int)):=
  cond (decide (a.1 < b.Hi.X)) (((loop (q2z b a d f) (b.Lo.Y,a.2.1,a.2.2)).bind fun g=>some g).bind fun c=>some (.inl (w64 (a.1 + 1),c.1,c.2))) (some (.inr (a.2.1,a.2.2)))
noncomputable def q2x (b : List qh) (f : qg) (a : Int × Int × Int) : Option ((Int × Int × Int) ⊕ (Int × Int)):=
  cond (decide (a.1 < (b.length : Int))) (((idx b a.1).bind fun c=>(loop (q2y c b f) (c.Lo.X,a.2.1,a.2.2)).bind fun g=>some g).bind fun d=>some (.inl (w64 (a.1 + 1),d.1,d.2))) (some (.inr (a.2.1,a.2.2)))
noncomputable def q2w (a : List qh) (b : qg) : Option (Int × Int × Int):=
  (q33 a b).bind fun c=>cond (c != 0) (some (0,0,c)) ((some ()).bind fun _=>((loop (q2x a b) (0,0,0)).bind fun f=>some f).bind fun d=>some (d.1,d.2,0))
noncomputable def q2p (b : List qh) (c : Int × Int × Int) (d : Int × Int × Int) (f : Int × Int × Int) (h : qg) (a : Int × Int × Int) : Option ((Int × Int × Int) ⊕ (Int × Int)):=
  cond (decide (a.2.2 < 6)) (((q7f b ({X:=c.2.2,Y:=d.2.2,Z:=f.2.2} : qg) a.2.2).bind fun j=>cond (!j) (some (a.1,a.2.1)) ((q7l b ({X:=c.2.2,Y:=d.2.2,Z:=f.2.2} : qg) a.2.2 h).bind fun k=>cond k (some (w64 (a.1 + 1),a.2.1)) (some (a.1,w64 (a.2.1 + 1))))).bind fun g=>some (.inl (g.1,g.2,w64 (a.2.2 + 1)))) (some (.inr (a.1,a.2.1)))
noncomputable def q2o (c : qh) (d : List qh) (f : Int × Int × Int) (g : Int × Int × Int) (h : qg) (a : Int × Int × Int) : Option ((Int × Int × Int) ⊕ (Int × Int)):=
  cond (decide (a.2.2 < c.Hi.Z)) (((loop (q2p d f g a h) (a.1,a.2.1,0)).bind fun j=>some j).bind fun b=>some (.inl (b.1,b.2,w64 (a.2.2 + 1)))) (some (.inr (a.1,a.2.1)))
noncomputable def q2n (b : qh) (d : List qh) (f : Int × Int × Int) (g : qg) (a : Int × Int × Int) : Option ((Int × Int × Int) ⊕ (Int × Int)):=
  cond (decide (a.2.2 < b.Hi.Y)) (((loop (q2o b d f a g) (a.1,a.2.1,b.Lo.Z)).bind fun h=>some h).bind fun c=>some (.inl (c.1,c.2,w64 (a.2.2 + 1)))) (some (.inr (a.1,a.2.1)))
noncomputable def q2m (b : qh) (d : List qh) (f : qg) (a : Int × Int × Int) : Option ((Int × Int × Int) ⊕ (Int × Int)):=
  cond (decide (a.2.2 < b.Hi.X)) (((loop (q2n b d a f) (a.1,a.2.1,b.Lo.Y)).bind fun g=>some g).bind fun c=>some (.inl (c.1,c.2,w64 (a.2.2 + 1)))) (some (.inr (a.1,a.2.1)))
noncomputable def q2l (b : List qh) (f : qg) (a : Int × Int × Int) : Option ((Int × Int × Int) ⊕ (Int × Int)):=
  cond (decide (a.2.2 < (b.length : Int))) (((idx b a.2.2).bind fun c=>(loop (q2m c b f) (a.1,a.2.1,c.Lo.X)).bind fun g=>some g).bind fun d=>some (.inl (d.1,d.2,w64 (a.2.2 + 1)))) (some (.inr (a.1,a.2.1)))
noncomputable def qan (a : List qh) (b : qg) : Option (Int × Int × Int):=
  (Us a b).bind fun d=>cond (d != 0) ((Us a b).bind fun f=>some (0,0,f)) ((loop (q2l a b) (0,0,0)).bind fun c=>some (c.1,c.2,0))
noncomputable def qdk (a : List qh) (g : qg) (h : Int) (b : qg) : Option Bool:=
  (q5l a).bind fun l=>cond (!l) (some true) ((qak a).bind fun c=>(Uy c g h b).bind fun j=>(qap a g h b).bind fun k=>(q2w c b).bind fun d=>(qan a b).bind fun f=>(cond (j.1 == k.1) (some (j.2 == k.2)) (some false)).bind fun m=>(cond m (some (d.1 == f.1)) (some false)).bind fun n=>(cond n (some (d.2.1 == f.2.1)) (some false)).bind fun o=>(cond o (some (d.2.2 == f.2.2)) (some false)).bind fun p=>(cond p ((qaj c a).bind fun q=>some q) (some false)).bind fun r=>some r)
noncomputable def q5z (c : List qh) (a : Int × Int × Int × Int × Int × Int × Int) : Option ((Int × Int × Int × Int × Int × Int × Int) ⊕ (Int × Int × Int × Int × Int × Int)):=
  cond (decide (a.1 < (c.length : Int))) ((idx c a.1).bind fun b=>some (.inl (w64 (a.1 + 1),min a.2.1 b.Lo.X,min a.2.2.1 b.Lo.Y,min a.2.2.2.1 b.Lo.Z,max a.2.2.2.2.1 b.Hi.X,max a.2.2.2.2.2.1 b.Hi.Y,max a.2.2.2.2.2.2 b.Hi.Z))) (some (.inr (a.2.1,a.2.2.1,a.2.2.2.1,a.2.2.2.2.1,a.2.2.2.2.2.1,a.2.2.2.2.2.2)))
noncomputable def qby (c : List qh) : Option (qh × Int):=
  (q8z c).bind fun d=>cond (d != 0) (some (({Lo:=({X:=0,Y:=0,Z:=0} : qg),Hi:=({X:=0,Y:=0,Z:=0} : qg)} : qh),d)) (cond ((c.length : Int) == 0) (some (({Lo:=({X:=0,Y:=0,Z:=0} : qg),Hi:=({X:=0,Y:=0,Z:=0} : qg)} : qh),6)) ((idx c 0).bind fun a=>(loop (q5z c) (0,a.Lo.X,a.Lo.Y,a.Lo.Z,a.Hi.X,a.Hi.Y,a.Hi.Z)).bind fun b=>some (({Lo:=({X:=b.1,Y:=b.2.1,Z:=b.2.2.1} : qg),Hi:=({X:=b.2.2.2.1,Y:=b.2.2.2.2.1,Z:=b.2.2.2.2.2} : qg)} : qh),0)))
noncomputable def q97 (a : Int) (b : Int) (d : Int) (f : qh) (g : Int) (h : qg) : Option (Int × Int):=
  (J2 (w64 ((w64 (f.Hi.Z - g)) * d)) h.Z).bind fun c=>some (max (w64 ((min a (w64 (a - c))) - 2)) (-510),min (w64 ((max b (w64 (b - c))) + 2)) 510)
noncomputable def q4k (b : Int × Int) (c : Int × Int × List qk × List qu) (d : Int) (f : qg) (g : List qh) (a : Int × List qu) : Option ((Int × List qu) ⊕ (List qu)):=
  cond (decide (a.1 < b.2)) (((q4m ({p_:=({X:=w64 ((w64 (2 * c.2.1)) + 1),Y:=w64 ((w64 (2 * a.1)) + 1),Z:=w64 (2 * d)} : qg),d_:=f} : Yg) g).bind fun h=>cond h (some a.2) ((cond (decide ((a.2.length : Int) > 0)) ((idx a.2 (w64 ((a.2.length : Int) - 1))).bind fun j=>some (j.Hi == a.1)) (some false)).bind fun k=>cond k ((idx a.2 (w64 ((a.2.length : Int) - 1))).bind fun l=>(idx a.2 (w64 ((a.2.length : Int) - 1))).bind fun m=>some (a.2.set (w64 ((a.2.length : Int) - 1)).toNat ({Lo:=m.Lo,Hi:=w64 (l.Hi + 1)} : qu))) ((app 16 a.2 [({Lo:=a.1,Hi:=w64 (a.1 + 1)} : qu)]).bind fun n=>some n))).bind fun o=>some (.inl (w64 (a.1 + 1),o))) (some (.inr a.2))
noncomputable def q98 (c : List qu) (b : Int × Int × List qk × List qu) (a : Int × List qk) : Option ((Int × List qk) ⊕ (Int × List qk)):=
  cond (decide (a.1 < (c.length : Int))) ((idx c a.1).bind fun d=>(app 32 a.2 [({X0:=b.2.1,Y0:=d.Lo,X1:=b.2.1,Y1:=d.Hi} : qk)]).bind fun f=>some (.inl (w64 (a.1 + 1),f))) (some (.inr ((b.2.2.1.length : Int),a.2)))
noncomputable def q1o (c : Int × Int × List qk × List qu) (a : Int × List qk) : Option ((Int × List qk) ⊕ (List qk)):=
  cond (decide (a.1 < (a.2.length : Int))) ((idx a.2 a.1).bind fun b=>some (.inl (w64 (a.1 + 1),a.2.set a.1.toNat ({X0:=b.X0,Y0:=b.Y0,X1:=w64 (c.2.1 + 1),Y1:=b.Y1} : qk)))) (some (.inr a.2))
noncomputable def q4j (f : Int × Int) (d : Int × Int) (g : Int) (h : qg) (j : List qh) (a : Int × Int × List qk × List qu) : Option ((Int × Int × List qk × List qu) ⊕ (List qk)):=
  cond (decide (a.2.1 < f.2)) ((loop (q4k d a g h j) (d.1,[])).bind fun b=>(cond ((b.length : Int) == 0) (some true) (some (decide (a.2.1 < a.2.1)))).bind fun k=>(cond k (some true) ((q81 a.2.2.2 b).bind fun l=>some (!l))).bind fun m=>(cond m ((loop (q98 b a) (0,a.2.2.1)).bind fun n=>some n) (some (a.1,a.2.2.1))).bind fun c=>(loop (q1o a) (c.1,c.2)).bind fun o=>some (.inl (c.1,w64 (a.2.1 + 1),o,b))) (some (.inr a.2.2.1))
noncomputable def Ue (d : List qh) (c : Int) (b : qg) : Option (List qk × Int):=
  (q33 d b).bind fun f=>cond (f != 0) (some ([],f)) ((cond (decide (c < (-30))) (some true) (some (decide (c > 30)))).bind fun j=>(cond j (some true) (some (decide (b.Z≤0)))).bind fun k=>cond k (some ([],2)) ((qby d).bind fun a=>(cond (a.2 != 0) (some true) (some (decide (a.1.Hi.Z≤c)))).bind fun l=>cond l (some ([],0)) ((q97 a.1.Lo.X a.1.Hi.X b.X a.1 c b).bind fun g=>(q97 a.1.Lo.Y a.1.Hi.Y b.Y a.1 c b).bind fun m=>(loop (q4j g m c b d) (0,g.1,[],[])).bind fun h=>cond (decide ((h.length : Int) > 400)) (some ([],4)) (some (h,0)))))
noncomputable def q7m (f : Int) (g : Int) (h : Int) (j : Int) (a : Int) (b : Int) : Option (Int × Int):=
  (J2 (w64 ((w64 (0 - h)) * a)) b).bind fun c=>(J2 (w64 ((w64 (0 - j)) * a)) b).bind fun d=>some (w64 ((w64 (f + (min c d))) - 2),w64 ((w64 (g + (max c d))) + 2))
noncomputable def q43 (d : Int × Int) (f : qh) (b : Int × List qk) (g : Int) (h : qg) (a : Int × List qk) : Option ((Int × List qk) ⊕ (List qk)):=
  cond (decide (a.1≤d.2)) (((q7g f ({X:=w64 ((w64 (2 * b.1)) + 1),Y:=w64 ((w64 (2 * a.1)) + 1),Z:=w64 (2 * g)} : qg) h).bind fun j=>cond (!j.2) (some a.2) ((cond (decide ((a.2.length : Int) > 0)) ((idx a.2 (w64 ((a.2.length : Int) - 1))).bind fun k=>some (k.X0 == b.1)) (some false)).bind fun l=>(cond l ((idx a.2 (w64 ((a.2.length : Int) - 1))).bind fun m=>some (m.Y1 == a.1)) (some false)).bind fun n=>cond n ((idx a.2 (w64 ((a.2.length : Int) - 1))).bind fun c=>some (a.2.set (w64 ((a.2.length : Int) - 1)).toNat ({X0:=c.X0,Y0:=c.Y0,X1:=c.X1,Y1:=w64 (a.1 + 1)} : qk))) ((app 32 a.2 [({X0:=b.1,Y0:=a.1,X1:=w64 (b.1 + 1),Y1:=w64 (a.1 + 1)} : qk)]).bind fun o=>some o))).bind fun p=>some (.inl (w64 (a.1 + 1),p))) (some (.inr a.2))
noncomputable def q42 (c : Int × Int) (b : Int × Int) (d : qh) (f : Int) (g : qg) (a : Int × List qk) : Option ((Int × List qk) ⊕ (List qk)):=
  cond (decide (a.1≤c.2)) (((loop (q43 b d a f g) (b.1,a.2)).bind fun h=>some h).bind fun j=>some (.inl (w64 (a.1 + 1),j))) (some (.inr a.2))
noncomputable def q41 (f : List qh) (b : Int) (d : qg) (c : Int × List qk) : Option ((Int × List qk) ⊕ (List qk)):=
  cond (decide (c.1 < (f.length : Int))) (((idx f c.1).bind fun a=>cond (decide (a.Hi.Z≤b)) (some c.2) ((q7m a.Lo.X a.Hi.X (w64 ((max a.Lo.Z b) - b)) (w64 (a.Hi.Z - b)) d.X d.Z).bind fun g=>(q7m a.Lo.Y a.Hi.Y (w64 ((max a.Lo.Z b) - b)) (w64 (a.Hi.Z - b)) d.Y d.Z).bind fun h=>(loop (q42 g h a b d) (g.1,c.2)).bind fun j=>some j)).bind fun k=>some (.inl (w64 (c.1 + 1),k))) (some (.inr c.2))
noncomputable def qaq (b : List qh) (c : Int) (a : qg) : Option (List qk × Int):=
  (Us b a).bind fun f=>cond (f != 0) ((Us b a).bind fun g=>some ([],g)) ((cond (decide (c < (-30))) (some true) (some (decide (c > 30)))).bind fun h=>(cond h (some true) (some (decide (a.Z≤0)))).bind fun j=>cond j (some ([],2)) ((loop (q41 b c a) (0,[])).bind fun k=>(Zo 2 k []).bind fun d=>cond (decide ((d.length : Int) > 400)) (some ([],4)) (some (d,0))))
noncomputable def qdm (a : List qh) (b : Int) (c : qg) : Option Bool:=
  (q5l a).bind fun g=>cond (!g) (some true) ((Ue a b c).bind fun d=>(qaq a b c).bind fun f=>(q2j d.1 f.1).bind fun h=>(cond h (some (d.2 == f.2)) (some false)).bind fun j=>some j)
noncomputable def qf6 (b : (Int × Int × Int)) (c : (Int × Int × Int)) (a : Int) : Option ((Int) ⊕ ((Unit) ⊕ (Bool))):=
  cond (decide (a < 3)) ((idxA 3 [b.1,b.2.1,b.2.2] a).bind fun d=>(cond (d == 0) ((idxA 3 [c.1,c.2.1,c.2.2] a).bind fun f=>some ((Int.tmod f 2) == 0)) (some false)).bind fun g=>cond g (some (.inr (.inr false))) (some (.inl (w64 (a + 1))))) (some (.inr (.inl ())))
noncomputable def q9e (a : Yg) : Option Bool:=
  (q1p a.p_).bind fun b=>(q1p a.d_).bind fun c=>(loop (qf6 c b) 0 : Option ((Unit) ⊕ (Bool))).bind fun d=>(match d with | .inl _=>(q4l a.p_ 240).bind fun f=>some f | .inr g=>some g)
noncomputable def Ud (b : List qh) (c : qg) (a : qg) : Option (Bool × Int):=
  (q33 b a).bind fun d=>cond (d != 0) (some (false,d)) ((q9e ({p_:=c,d_:=a} : Yg)).bind fun f=>cond (!f) (some (false,2)) ((q4m ({p_:=c,d_:=a} : Yg) b).bind fun g=>some (g,0)))
noncomputable def qef (b : qg) (c : qg) (a : Int) : Option ((Int) ⊕ ((Unit) ⊕ (Bool))):=
  cond (decide (a < 3)) ((Ya b a).bind fun d=>(cond (d == 0) ((Ya c a).bind fun f=>some ((Int.tmod f 2) == 0)) (some false)).bind fun g=>cond g (some (.inr (.inr false))) (some (.inl (w64 (a + 1))))) (some (.inr (.inl ())))
noncomputable def qao (a : qg) (b : qg) : Option Bool:=
  (loop (qef b a) 0 : Option ((Unit) ⊕ (Bool))).bind fun c=>(match c with | .inl _=>(q1l a 240).bind fun d=>some d | .inr f=>some f)
noncomputable def q7q (a : Int) : Option Int:=
  cond (decide (a < 0)) (some (IntKind.wrap .u64 (0 - (IntKind.wrap .u64 a)))) (some (IntKind.wrap .u64 a))
noncomputable def q7p (a : Int × Int) : Option ((Int × Int) ⊕ (Int)):=
  cond (a.2 != 0) ((remK a.1 a.2).bind fun b=>some (.inl (a.2,b))) (some (.inr a.1))
noncomputable def qat (a : Int) (b : Int) : Option Int:=
  (loop q7p (a,b)).bind fun c=>some c
noncomputable def qas (c : Int) (a : Int) : Option (Qr × Int):=
  cond (a == 0) (some (({Num:=0,Den:=0} : Qr),18)) ((q7q c).bind fun d=>(q7q a).bind fun f=>(qat d f).bind fun g=>(quoK .u64 d g).bind fun b=>(quoK .u64 f g).bind fun h=>(cond (decide (b > 1000000000)) (some true) (some (decide (h > 1000000000)))).bind fun j=>cond j (some (({Num:=0,Den:=0} : Qr),16)) ((cond (!((decide (c < 0)) == (decide (a < 0)))) (some (w64 (0 - (w64 b)))) (some (w64 b))).bind fun k=>some (({Num:=k,Den:=w64 h} : Qr),0)))
noncomputable def q32 (d : List qh) (f : qg) (g : qg) (a : Bool × Int × Int × Int) : Option ((Bool × Int × Int × Int) ⊕ (Bool × Int × Int)):=
  cond (decide (a.2.1 < (d.length : Int))) (((idx d a.2.1).bind fun h=>(q9g ({p_:=f,d_:=g} : Yg) h).bind fun b=>(cond b.2 ((cond (!a.1) (some true) ((q4n b.1 ({num_:=a.2.2.1,den_:=a.2.2.2} : Ky)).bind fun j=>some j)).bind fun k=>some k) (some false)).bind fun l=>cond l (some (true,b.1.num_,b.1.den_)) (some (a.1,a.2.2.1,a.2.2.2))).bind fun c=>some (.inl (c.1,w64 (a.2.1 + 1),c.2.1,c.2.2))) (some (.inr (a.1,a.2.2.1,a.2.2.2)))
noncomputable def Ux (c : List qh) (d : qg) (a : qg) : Option (Qr × Int):=
  (q33 c a).bind fun f=>cond (f != 0) (some (({Num:=0,Den:=0} : Qr),f)) ((q9e ({p_:=d,d_:=a} : Yg)).bind fun h=>cond (!h) (some (({Num:=0,Den:=0} : Qr),2)) ((loop (q32 c d a) (false,0,0,0)).bind fun b=>cond (!b.1) (some (({Num:=0,Den:=0} : Qr),6)) ((qas b.2.1 b.2.2).bind fun g=>some (g.1,g.2))))
noncomputable def q1g (a : Int) (b : Int) (c : Int) (d : Int) (f : Int) (g : Int) : Option qh:=
  some ({Lo:=({X:=a,Y:=b,Z:=c} : qg),Hi:=({X:=d,Y:=f,Z:=g} : qg)} : qh)
noncomputable def Y4 (a : Int) (b : Int) (c : Int) : Option qg:=
  some ({X:=a,Y:=b,Z:=c} : qg)
noncomputable def qa3 (a : Int) (b : Int) (c : Int) (d : Int) : Option (List qk):=
  some [({X0:=a,Y0:=b,X1:=c,Y1:=d} : qk)]
noncomputable def q6s : Option Bool:=
  (q1g 0 0 0 1 1 1).bind fun a=>(Y4 (-3) 1 1).bind fun j=>(Y4 1 0 0).bind fun k=>(Ux [a] j k).bind fun b=>(Y4 1 0 1).bind fun l=>(q2w [a] l).bind fun c=>(Y4 1 0 1).bind fun m=>(Uy [a] ({X:=0,Y:=0,Z:=0} : qg) 0 m).bind fun d=>(Y4 1 0 1).bind fun n=>(Uy [a] ({X:=0,Y:=0,Z:=0} : qg) 4 n).bind fun f=>(Y4 0 0 1).bind fun o=>(Ue [a] 0 o).bind fun g=>(q1g 0 0 1 1 1 2).bind fun p=>(Y4 1 0 1).bind fun q=>(Ue [p] 0 q).bind fun h=>(cond (b.2 == 0) (some ((b.1.Num == 3) && ((b.1.Den == 2) && true))) (some false)).bind fun r=>(cond r (some (c.2.2 == 0)) (some false)).bind fun s=>(cond s (some (c.1 == 2)) (some false)).bind fun t=>(cond t (some (c.2.1 == 4)) (some false)).bind fun u=>(cond u (some (d.2 == 0)) (some false)).bind fun v=>(cond v (some d.1) (some false)).bind fun x=>(cond x (some (f.2 == 0)) (some false)).bind fun y=>(cond y (some f.1) (some false)).bind fun z=>(cond z (some (g.2 == 0)) (some false)).bind fun aa=>(cond aa ((qa3 0 0 1 1).bind fun ab=>(q2j g.1 ab).bind fun ac=>some ac) (some false)).bind fun ad=>(cond ad (some (h.2 == 0)) (some false)).bind fun ae=>(cond ae ((qa3 (-2) 0 0 1).bind fun af=>(q2j h.1 af).bind fun ag=>some ag) (some false)).bind fun ah=>some ah
noncomputable def qdl : Option Bool:=
  (q1g 0 0 0 1 1 1).bind fun a=>(Y4 0 0 1).bind fun b=>(q1g 0 0 0 31 1 1).bind fun m=>(Y4 1 1 1).bind fun n=>(Ud [m] n b).bind fun o=>(Y4 1 1 1).bind fun p=>(Ud [a] p ({X:=0,Y:=0,Z:=0} : qg)).bind fun q=>(Y4 1 1 1).bind fun r=>(Y4 9 0 0).bind fun s=>(Ud [a] r s).bind fun t=>(Y4 0 1 1).bind fun u=>(Ud [a] u b).bind fun v=>(Y4 1 1 241).bind fun x=>(Ud [a] x b).bind fun y=>(Y4 1 1 2).bind fun z=>(Ud [a] z b).bind fun h=>(Y4 1 1 2).bind fun aa=>(Ux [a] aa b).bind fun ab=>(Y4 1 1 0).bind fun ac=>(Ux [a] ac b).bind fun c=>(Y4 1 1 1).bind fun ad=>(Ux [a] ad b).bind fun d=>(Y4 0 0 0).bind fun ae=>(Uy [a] ae 6 b).bind fun af=>(Y4 1 0 0).bind fun ag=>(Uy [a] ag 0 b).bind fun ah=>(Y4 1 0 0).bind fun ai=>(Ue [a] 0 ai).bind fun aj=>(Ue [a] 31 b).bind fun ak=>(Ue [a] 1 b).bind fun j=>(q2w [({Lo:=({X:=0,Y:=0,Z:=0} : qg),Hi:=({X:=0,Y:=0,Z:=0} : qg)} : qh)] b).bind fun al=>(q2w [] b).bind fun f=>(q1g 0 0 0 1 2 1).bind fun k=>(q1g 1 0 0 2 1 1).bind fun l=>(Y4 2 (-1) 1).bind fun am=>(Y4 0 1 0).bind fun an=>(Ud [k,l] am an).bind fun ao=>(Y4 3 (-1) 1).bind fun ap=>(Y4 0 1 0).bind fun aq=>(Ux [k,l] ap aq).bind fun g=>q6s.bind fun ar=>(cond ar (some (o.2 == 16)) (some false)).bind fun au=>(cond au (some (q.2 == 2)) (some false)).bind fun av=>(cond av (some (t.2 == 2)) (some false)).bind fun aw=>(cond aw (some (v.2 == 2)) (some false)).bind fun ax=>(cond ax (some (y.2 == 2)) (some false)).bind fun ay=>(cond ay (some (h.2 == 0)) (some false)).bind fun az=>(cond az (some h.1) (some false)).bind fun ba=>(cond ba (some (ab.2 == 6)) (some false)).bind fun bb=>(cond bb (some (c.2 == 0)) (some false)).bind fun bc=>(cond bc (some ((c.1.Num == 0) && ((c.1.Den == 1) && true))) (some false)).bind fun bd=>(cond bd (some (d.2 == 0)) (some false)).bind fun be=>(cond be (some ((d.1.Num == 0) && ((d.1.Den == 1) && true))) (some false)).bind fun bf=>(cond bf (some (af.2 == 2)) (some false)).bind fun bg=>(cond bg (some (ah.2 == 6)) (some false)).bind fun bh=>(cond bh (some (aj.2 == 2)) (some false)).bind fun bi=>(cond bi (some (ak.2 == 2)) (some false)).bind fun bj=>(cond bj (some (j.2 == 0)) (some false)).bind fun bk=>(cond bk (some ((j.1.length : Int) == 0)) (some false)).bind fun bl=>(cond bl (some (al.2.2 == 8)) (some false)).bind fun bm=>(cond bm (some (f.2.2 == 0)) (some false)).bind fun bn=>(cond bn (some (f.1 == 0)) (some false)).bind fun bo=>(cond bo (some (f.2.1 == 0)) (some false)).bind fun bp=>(cond bp (some (ao.2 == 2)) (some false)).bind fun bq=>(cond bq (some (g.2 == 0)) (some false)).bind fun br=>(cond br (some ((g.1.Num == 1) && ((g.1.Den == 2) && true))) (some false)).bind fun bs=>some bs
noncomputable def qa2 (a : List qh) (b : qg) : Option Bool:=
  (cond (decide ((a.length : Int)≤6)) ((q5l a).bind fun c=>some c) (some false)).bind fun d=>(cond d ((Us a b).bind fun f=>some (f == 0)) (some false)).bind fun g=>some g
noncomputable def q6u (b : List qh) (c : qg) (d : qg) (f : Qr) (a : Int) : Option ((Int) ⊕ ((Unit) ⊕ (Bool))):=
  cond (decide (a < (b.length : Int))) ((idx b a).bind fun g=>(q7j g c d f).bind fun h=>cond h (some (.inr (.inr true))) (some (.inl (w64 (a + 1))))) (some (.inr (.inl ())))
noncomputable def q56 (a : List qh) (b : qg) (c : qg) (d : Qr) : Option Bool:=
  (loop (q6u a b c d) 0 : Option ((Unit) ⊕ (Bool))).bind fun f=>(match f with | .inl _=>some false | .inr g=>some g)
noncomputable def qdn (b : List qh) (c : qg) (a : qg) (h : Int) (j : Int) : Option Bool:=
  q6s.bind fun f=>(qa2 b a).bind fun m=>(cond (!m) (some true) ((qao c a).bind fun n=>some (!n))).bind fun o=>(cond o (some true) (some (decide (h < 1)))).bind fun p=>(cond p (some true) (some (decide (j < 1)))).bind fun q=>(cond q (some true) (some (decide (h > 1000)))).bind fun r=>(cond r (some true) (some (decide (j > 1000)))).bind fun s=>(cond s (some true) (some (!f))).bind fun t=>cond t (some f) ((q3v (w64 h) (w64 j)).bind fun g=>cond (g.2 != 0) (some false) ((Ud b c a).bind fun k=>(Ux b c a).bind fun d=>(cond (k.2 != 0) (some true) (some (!(k.1 == (d.2 == 6))))).bind fun u=>cond u (some false) (cond k.1 ((cond f ((q56 b c a g.1).bind fun v=>some (!v)) (some false)).bind fun x=>some x) ((q59 d.1 ({Num:=1,Den:=1000} : Qr)).bind fun l=>(cond f (some (d.2 == 0)) (some false)).bind fun y=>(cond y (some (decide (d.1.Num ≥ 0))) (some false)).bind fun z=>(cond z (some (l.2 == 0)) (some false)).bind fun aa=>(cond aa ((q56 b c a l.1).bind fun ab=>some ab) (some false)).bind fun ac=>(cond ac ((q56 b c a g.1).bind fun ad=>(cond (!ad) (some true) ((q71 d.1 g.1).bind fun ae=>some ae)).bind fun af=>some af) (some false)).bind fun ag=>some ag))))
noncomputable def q63 (b : List qu) (a : Int) : Option ((Int) ⊕ ((Unit) ⊕ (Int))):=
  cond (decide (a < (b.length : Int))) ((idx b a).bind fun c=>(q4g c).bind fun d=>(cond (!d) (some true) ((cond (decide (a > 0)) ((idx b (w64 (a - 1))).bind fun f=>some (decide (f.Hi ≥ c.Lo))) (some false)).bind fun g=>some g)).bind fun h=>cond h (some (.inr (.inr 8))) (some (.inl (w64 (a + 1))))) (some (.inr (.inl ())))
noncomputable def qez (a : List qu) : Option Int:=
  cond (decide ((a.length : Int) > 400)) (some 4) ((loop (q63 a) 0 : Option ((Unit) ⊕ (Int))).bind fun b=>(match b with | .inl _=>some 0 | .inr c=>some c))
structure qcq where
  Turn : Int
  At : qg
  deriving DecidableEq
noncomputable def qlg (a : Int) : Option qg:=
  cond ((IntKind.wrap .u8 (Int.tdiv a 2)) == 0) (some ({X:=w64 (1 - (w64 (2 * (w64 (Int.tmod a 2))))),Y:=0,Z:=0} : qg)) (cond ((IntKind.wrap .u8 (Int.tdiv a 2)) == 1) (some ({X:=0,Y:=w64 (1 - (w64 (2 * (w64 (Int.tmod a 2))))),Z:=0} : qg)) (some ({X:=0,Y:=0,Z:=w64 (1 - (w64 (2 * (w64 (Int.tmod a 2)))))} : qg)))
noncomputable def qts (a : qg) (b : qg) : Option qg:=
  some ({X:=w64 ((w64 (a.Y * b.Z)) - (w64 (a.Z * b.Y))),Y:=w64 ((w64 (a.Z * b.X)) - (w64 (a.X * b.Z))),Z:=w64 ((w64 (a.X * b.Y)) - (w64 (a.Y * b.X)))} : qg)
noncomputable def qtr (a : Int) : Option (qg × qg × qg):=
  (cond (decide ((Int.tmod a 4) ≥ (IntKind.wrap .u8 ((IntKind.wrap .u8 (Int.tdiv (IntKind.wrap .u8 (Int.tdiv a 4)) 2)) * 2)))) (some (IntKind.wrap .u8 ((Int.tmod a 4) + 2))) (some (Int.tmod a 4))).bind fun d=>(qlg (IntKind.wrap .u8 (Int.tdiv a 4))).bind fun b=>(qlg d).bind fun c=>(qts b c).bind fun f=>some (b,c,f)
noncomputable def qo0 (a : qu) : Option Bool:=
  (cond (decide (a.Lo < a.Hi)) (some (decide (a.Lo ≥ (-1000000)))) (some false)).bind fun b=>(cond b (some (decide (a.Hi≤1000000))) (some false)).bind fun c=>some c
noncomputable def qhx (b : List qu) (a : Int) : Option ((Int) ⊕ ((Unit) ⊕ (Int))):=
  cond (decide (a < (b.length : Int))) ((idx b a).bind fun c=>(qo0 c).bind fun d=>(cond (!d) (some true) ((cond (decide (a > 0)) ((idx b (w64 (a - 1))).bind fun f=>(idx b a).bind fun g=>some (decide (f.Hi ≥ g.Lo))) (some false)).bind fun h=>some h)).bind fun j=>cond j (some (.inr (.inr 8))) (some (.inl (w64 (a + 1))))) (some (.inr (.inl ())))
noncomputable def qe1 (a : List qu) : Option Int:=
  cond (decide ((a.length : Int) > 400)) (some 4) ((loop (qhx a) 0 : Option ((Unit) ⊕ (Int))).bind fun b=>(match b with | .inl _=>some 0 | .inr c=>some c))
noncomputable def qac (b : List qu) (a : Int × List Int) : Option ((Int × List Int) ⊕ (List Int)):=
  cond (decide (a.1 < (b.length : Int))) ((idx b a.1).bind fun c=>(idx b a.1).bind fun d=>(app 8 a.2 [c.Lo,d.Hi]).bind fun f=>some (.inl (w64 (a.1 + 1),f))) (some (.inr a.2))
noncomputable def qnx (b : List qu) (a : Int × List Int) : Option ((Int × List Int) ⊕ (List Int)):=
  cond (decide (a.1 < (b.length : Int))) ((idx b a.1).bind fun c=>(idx b a.1).bind fun d=>(app 8 a.2 [c.Lo,d.Hi]).bind fun f=>some (.inl (w64 (a.1 + 1),f))) (some (.inr a.2))
noncomputable def qhy (a : List qu) (b : List qu) : Option (List Int):=
  (loop (qac a) (0,[])).bind fun c=>(loop (qnx b) (0,c)).bind fun d=>(J3 d).bind fun f=>some f
noncomputable def qad (b : List qu) (c : Int) (a : Int) : Option ((Int) ⊕ ((Unit) ⊕ (Bool))):=
  cond (decide (a < (b.length : Int))) ((idx b a).bind fun d=>(cond (decide (d.Lo≤c)) ((idx b a).bind fun f=>some (decide (c < f.Hi))) (some false)).bind fun g=>cond g (some (.inr (.inr true))) (some (.inl (w64 (a + 1))))) (some (.inr (.inl ())))
noncomputable def qe2 (a : List qu) (b : Int) : Option Bool:=
  (loop (qad a b) 0 : Option ((Unit) ⊕ (Bool))).bind fun c=>(match c with | .inl _=>some false | .inr d=>some d)
noncomputable def qae (b : List Int) (c : List qu) (d : List qu) (f : Int) (a : Int × List Bool) : Option ((Int × List Bool) ⊕ (List Bool)):=
  cond (decide (a.1 < (b.length : Int))) ((idx b a.1).bind fun g=>(qe2 c g).bind fun h=>(idx b a.1).bind fun j=>(qe2 d j).bind fun k=>(q73 f h k).bind fun l=>(app 1 a.2 [l]).bind fun m=>some (.inl (w64 (a.1 + 1),m))) (some (.inr a.2))
noncomputable def qe3 (d : Int) (a : List qu) (b : List qu) : Option (List qu):=
  (qhy a b).bind fun c=>(loop (qae c a b d) (0,[])).bind fun f=>(q3w c f).bind fun g=>some g
noncomputable def qc2 (b : List qu) (a : Int × Int) : Option ((Int × Int) ⊕ (Int)):=
  cond (decide (a.2 < (b.length : Int))) ((idx b a.2).bind fun c=>some (.inl (w64 (a.1 + (w64 (c.Hi - c.Lo))),w64 (a.2 + 1)))) (some (.inr a.1))
noncomputable def qpv (a : List qu) : Option (Int × Int):=
  (qez a).bind fun b=>cond (b != 0) (some (0,b)) ((loop (qc2 a) (0,0)).bind fun c=>some (c,0))
noncomputable def qaf (b : List qu) (a : Int × Int) : Option ((Int × Int) ⊕ (Int)):=
  cond (decide (a.2 < (b.length : Int))) ((idx b a.2).bind fun c=>(idx b a.2).bind fun d=>some (.inl (w64 ((w64 (a.1 + c.Hi)) - d.Lo),w64 (a.2 + 1)))) (some (.inr a.1))
noncomputable def qnz (a : List qu) : Option (Int × Int):=
  (qe1 a).bind fun b=>cond (b != 0) ((qe1 a).bind fun c=>some (0,c)) ((loop (qaf a) (0,0)).bind fun d=>some (d,0))
structure qj9 where
  Frame : qcq
  Size : qg
  deriving DecidableEq
structure q15c where
  t_ : Int
  at_ : qg
  flat_ : qg
  deriving DecidableEq
end Go.Sh
