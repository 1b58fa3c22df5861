/- PX -/
import Derived.Test.YtmnfbjlabfeneaaGreatK7
namespace Go.Sh
open Go Go.Am
structure ql where
  X : Int
  Y : Int
  Z : Int
  deriving DecidableEq
structure qg where
  Lo : ql
  Hi : ql
  deriving DecidableEq
def Q6 (x : qg) : List DV:=[.int .i64 x.Lo.X,.int .i64 x.Lo.Y,.int .i64 x.Lo.Z,.int .i64 x.Hi.X,.int .i64 x.Hi.Y,.int .i64 x.Hi.Z]
noncomputable def Ux (a : ql) (b : Int) : Option Bool:=
  (cond (decide (a.X ≥ (w64 (0 - b)))) (some (decide (a.X≤b))) (some false)).bind fun c=>(cond c (some (decide (a.Y ≥ (w64 (0 - b))))) (some false)).bind fun d=>(cond d (some (decide (a.Y≤b))) (some false)).bind fun f=>(cond f (some (decide (a.Z ≥ (w64 (0 - b))))) (some false)).bind fun g=>(cond g (some (decide (a.Z≤b))) (some false)).bind fun h=>some h
noncomputable def q68 (b : List qg) (a : Int) : Option ((Int) ⊕ ((Unit) ⊕ (Bool))):=
  cond (decide (a < (b.length : Int))) ((idx b a).bind fun c=>(Ux c.Lo 9).bind fun d=>(cond (!d) (some true) ((idx b a).bind fun f=>(Ux f.Hi 9).bind fun g=>some (!g))).bind fun h=>cond h (some (.inr (.inr false))) (some (.inl (w64 (a + 1))))) (some (.inr (.inl ())))
noncomputable def q9a (a : List qg) : Option Bool:=
  cond (decide ((a.length : Int) > 400)) (some (decide ((a.length : Int)≤420))) ((loop (q68 a) 0 : Option ((Unit) ⊕ (Bool))).bind fun b=>(match b with | .inl _=>some (decide ((a.length : Int)≤6)) | .inr c=>some c))
noncomputable def Jh (b : List qg) (c : qg→Option Bool) (a : Int) : Option ((Int) ⊕ ((Unit) ⊕ (Int))):=
  cond (decide (a < (b.length : Int))) ((idx b a).bind fun d=>(c d).bind fun f=>cond f (some (.inr (.inr a))) (some (.inl (w64 (a + 1))))) (some (.inr (.inl ())))
noncomputable def q6q (a : List qg) (b : qg→Option Bool) : Option Int:=
  (loop (Jh a b) 0 : Option ((Unit) ⊕ (Int))).bind fun c=>(match c with | .inl _=>some (-1) | .inr d=>some d)
noncomputable def Ud (a : List qg) (b : qg→Option Bool) : Option Bool:=
  (q6q a b).bind fun c=>some (decide (c ≥ 0))
noncomputable def q7q (a : ql) : Option Bool:=
  (cond (decide ((min (min a.X a.Y) a.Z) ≥ (-1000000))) (some (decide ((max (max a.X a.Y) a.Z)≤1000000))) (some false)).bind fun b=>some b
noncomputable def qai (a : qg) : Option Bool:=
  (cond (decide (a.Lo.X < a.Hi.X)) (some (decide (a.Lo.Y < a.Hi.Y))) (some false)).bind fun b=>(cond b (some (decide (a.Lo.Z < a.Hi.Z))) (some false)).bind fun c=>(cond c ((q7q a.Lo).bind fun d=>some d) (some false)).bind fun f=>(cond f ((q7q a.Hi).bind fun g=>some g) (some false)).bind fun h=>some h
noncomputable def q38 (a : qg) : Option Bool:=
  (qai a).bind fun b=>some (!b)
def K5 (x : List qg) : List DV:=[.sl 6 (x.map Q6)]
def qdl : ByteArray:=⟨#[0,1,2,2,3,3,3,3,4,4,4,4,4,4,4,4,5,5,5,5,5,5,5,5,5,5,5,5,5,5,5,5,6,6,6,6,6,6,6,6,6,6,6,6,6,6,6,6,6,6,6,6,6,6,6,6,6,6,6,6,6,6,6,6,7,7,7,7,7,7,7,7,7,7,7,7,7,7,7,7,7,7,7,7,7,7,7,7,7,7,7,7,7,7,7,7,7,7,7,7,7,7,7,7,7,7,7,7,7,7,7,7,7,7,7,7,7,7,7,7,7,7,7,7,7,7,7,7,8,8,8,8,8,8,8,8,8,8,8,8,8,8,8,8,8,8,8,8,8,8,8,8,8,8,8,8,8,8,8,8,8,8,8,8,8,8,8,8,8,8,8,8,8,8,8,8,8,8,8,8,8,8,8,8,8,8,8,8,8,8,8,8,8,8,8,8,8,8,8,8,8,8,8,8,8,8,8,8,8,8,8,8,8,8,8,8,8,8,8,8,8,8,8,8,8,8,8,8,8,8,8,8,8,8,8,8,8,8,8,8,8,8,8,8,8,8,8,8,8,8,8,8,8,8,8,8]⟩
noncomputable def q2r (c : Int) : Option Int:=
  (cond (decide (c ≥ 4294967296)) (some (Int.fdiv c (2 ^ 32),32)) (some (c,0))).bind fun a=>(cond (decide (a.1 ≥ 65536)) (some (Int.fdiv a.1 (2 ^ 16),w64 (a.2 + 16))) (some (a.1,a.2))).bind fun b=>(cond (decide (b.1 ≥ 256)) (some (Int.fdiv b.1 (2 ^ 8),w64 (b.2 + 8))) (some (b.1,b.2))).bind fun d=>(q51 qdl (IntKind.wrap .u8 d.1)).bind fun f=>some (w64 (d.2 + (w64 f)))
noncomputable def Uw (a : Int) : Option Int:=
  (q2r a).bind fun b=>some b
noncomputable def q8e (a : Int) : Option Bool:=
  some (a != a)
noncomputable def Z5 (a : Int) (b : Int) : Option Bool:=
  (q8e a).bind fun c=>(cond c ((q8e b).bind fun d=>some (!d)) (some false)).bind fun f=>(cond f (some true) (some (decide (a < b)))).bind fun g=>some g
noncomputable def q70 (c : Int) (a : Int × List Int) : Option ((Int × List Int) ⊕ (List Int)):=
  (cond (decide (a.1 > c)) ((idx a.2 a.1).bind fun d=>(idx a.2 (w64 (a.1 - 1))).bind fun f=>(Z5 d f).bind fun g=>some g) (some false)).bind fun h=>cond h ((idx a.2 (w64 (a.1 - 1))).bind fun b=>(idx a.2 a.1).bind fun j=>(idx a.2 a.1).bind fun _=>(idx (a.2.set a.1.toNat b) (w64 (a.1 - 1))).bind fun _=>some (.inl (w64 (a.1 - 1),(a.2.set a.1.toNat b).set (w64 (a.1 - 1)).toNat j))) (some (.inr a.2))
noncomputable def q6z (b : Int) (c : Int) (a : Int × List Int) : Option ((Int × List Int) ⊕ (List Int)):=
  cond (decide (a.1 < b)) (((loop (q70 c) (a.1,a.2)).bind fun d=>some d).bind fun f=>some (.inl (w64 (a.1 + 1),f))) (some (.inr a.2))
noncomputable def q6y (b : List Int) (a : Int) (c : Int) : Option (List Int):=
  (loop (q6z c a) (w64 (a + 1),b)).bind fun d=>some d
noncomputable def q7m (d : Int) (b : Int) (a : Int × List Int) : Option ((Int × List Int) ⊕ (List Int)):=
  cond (decide ((w64 ((w64 (2 * a.1)) + 1)) ≥ d)) (some (.inr a.2)) ((cond (decide ((w64 ((w64 ((w64 (2 * a.1)) + 1)) + 1)) < d)) ((idx a.2 (w64 (b + (w64 ((w64 (2 * a.1)) + 1))))).bind fun g=>(idx a.2 (w64 ((w64 (b + (w64 ((w64 (2 * a.1)) + 1)))) + 1))).bind fun h=>(Z5 g h).bind fun j=>some j) (some false)).bind fun k=>(cond k (some (w64 ((w64 ((w64 (2 * a.1)) + 1)) + 1))) (some (w64 ((w64 (2 * a.1)) + 1)))).bind fun c=>(idx a.2 (w64 (b + a.1))).bind fun l=>(idx a.2 (w64 (b + c))).bind fun m=>(Z5 l m).bind fun n=>cond (!n) (some (.inr a.2)) ((idx a.2 (w64 (b + c))).bind fun f=>(idx a.2 (w64 (b + a.1))).bind fun o=>(idx a.2 (w64 (b + a.1))).bind fun _=>(idx (a.2.set (w64 (b + a.1)).toNat f) (w64 (b + c))).bind fun _=>some (.inl (c,(a.2.set (w64 (b + a.1)).toNat f).set (w64 (b + c)).toNat o))))
noncomputable def q4t (a : List Int) (b : Int) (c : Int) (d : Int) : Option (List Int):=
  (loop (q7m c d) (b,a)).bind fun f=>some f
noncomputable def q6w (d : Int) (b : Int) (a : Int × List Int) : Option ((Int × List Int) ⊕ (List Int)):=
  cond (decide (a.1 ≥ 0)) ((q4t a.2 a.1 (w64 (d - b)) b).bind fun c=>(K2 c.length a.2.length).bind fun _=>some (.inl (w64 (a.1 - 1),c))) (some (.inr a.2))
noncomputable def q6x (b : Int) (a : Int × List Int) : Option ((Int × List Int) ⊕ (List Int)):=
  cond (decide (a.1 ≥ 0)) ((idx a.2 (w64 (b + a.1))).bind fun c=>(idx a.2 b).bind fun d=>(idx a.2 b).bind fun _=>(idx (a.2.set b.toNat c) (w64 (b + a.1))).bind fun _=>(q4t ((a.2.set b.toNat c).set (w64 (b + a.1)).toNat d) 0 a.1 b).bind fun f=>(K2 f.length ((a.2.set b.toNat c).set (w64 (b + a.1)).toNat d).length).bind fun _=>some (.inl (w64 (a.1 - 1),f))) (some (.inr a.2))
noncomputable def q6v (c : List Int) (a : Int) (b : Int) : Option (List Int):=
  (loop (q6w b a) (w64 (Int.tdiv (w64 ((w64 (b - a)) - 1)) 2),c)).bind fun d=>(loop (q6x a) (w64 ((w64 (b - a)) - 1),d)).bind fun f=>some f
noncomputable def q36 (c : List Int) (a : Int) (b : Int) (d : Int) : Option (Int × Int × Int):=
  (idx c b).bind fun f=>(idx c a).bind fun g=>(Z5 f g).bind fun h=>cond h (some (b,a,w64 (d + 1))) (some (a,b,d))
noncomputable def q4n (a : List Int) (f : Int) (g : Int) (h : Int) (j : Int) : Option (Int × Int):=
  (q36 a f g j).bind fun b=>(q36 a b.2.1 h b.2.2).bind fun c=>(q36 a b.1 c.1 c.2.2).bind fun d=>some (d.2.1,d.2.2)
noncomputable def q35 (c : List Int) (a : Int) (d : Int) : Option (Int × Int):=
  (q4n c (w64 (a - 1)) a (w64 (a + 1)) d).bind fun b=>some (b.1,b.2)
noncomputable def q6u (d : List Int) (a : Int) (b : Int) : Option (Int × Int):=
  (cond (decide ((w64 (b - a)) ≥ 8)) ((cond (decide ((w64 (b - a)) ≥ 50)) ((q35 d (w64 (a + (w64 ((w64 (Int.tdiv (w64 (b - a)) 4)) * 1)))) 0).bind fun g=>(q35 d (w64 (a + (w64 ((w64 (Int.tdiv (w64 (b - a)) 4)) * 2)))) g.2).bind fun h=>(q35 d (w64 (a + (w64 ((w64 (Int.tdiv (w64 (b - a)) 4)) * 3)))) h.2).bind fun j=>some (g.1,h.1,j.1,j.2)) (some (w64 (a + (w64 ((w64 (Int.tdiv (w64 (b - a)) 4)) * 1))),w64 (a + (w64 ((w64 (Int.tdiv (w64 (b - a)) 4)) * 2))),w64 (a + (w64 ((w64 (Int.tdiv (w64 (b - a)) 4)) * 3))),0))).bind fun f=>(q4n d f.1 f.2.1 f.2.2.1 f.2.2.2).bind fun k=>some (k.1,k.2)) (some (w64 (a + (w64 ((w64 (Int.tdiv (w64 (b - a)) 4)) * 2))),0))).bind fun c=>cond (c.2 == 0) (some (c.1,1)) (cond (c.2 == 12) (some (c.1,2)) (some (c.1,0)))
noncomputable def qad (a : Int × Int × List Int) : Option ((Int × Int × List Int) ⊕ (List Int)):=
  cond (decide (a.1 < a.2.1)) ((idx a.2.2 a.2.1).bind fun b=>(idx a.2.2 a.1).bind fun c=>(idx a.2.2 a.1).bind fun _=>(idx (a.2.2.set a.1.toNat b) a.2.1).bind fun _=>some (.inl (w64 (a.1 + 1),w64 (a.2.1 - 1),(a.2.2.set a.1.toNat b).set a.2.1.toNat c))) (some (.inr a.2.2))
noncomputable def q7k (a : List Int) (b : Int) (c : Int) : Option (List Int):=
  (loop qad (b,w64 (c - 1),a)).bind fun d=>some d
noncomputable def q74 (c : Int) (b : Int × Int × List Int) (a : Int) : Option ((Int) ⊕ (Int)):=
  (cond (decide (a < c)) ((idx b.2.2 a).bind fun d=>(idx b.2.2 (w64 (a - 1))).bind fun f=>(Z5 d f).bind fun g=>some (!g)) (some false)).bind fun h=>cond h (some (.inl (w64 (a + 1)))) (some (.inr a))
noncomputable def qa0 (a : Int × List Int) : Option ((Int × List Int) ⊕ (List Int)):=
  cond (decide (a.1 ≥ 1)) ((idx a.2 a.1).bind fun c=>(idx a.2 (w64 (a.1 - 1))).bind fun d=>(Z5 c d).bind fun f=>cond (!f) (some (.inr a.2)) ((idx a.2 (w64 (a.1 - 1))).bind fun b=>(idx a.2 a.1).bind fun g=>(idx a.2 a.1).bind fun _=>(idx (a.2.set a.1.toNat b) (w64 (a.1 - 1))).bind fun _=>some (.inl (w64 (a.1 - 1),(a.2.set a.1.toNat b).set (w64 (a.1 - 1)).toNat g)))) (some (.inr a.2))
noncomputable def q75 (d : Int) (b : Int) (a : Int × List Int) : Option ((Int × List Int) ⊕ (Int × List Int)):=
  cond (decide (a.1 < d)) ((idx a.2 a.1).bind fun f=>(idx a.2 (w64 (a.1 - 1))).bind fun g=>(Z5 f g).bind fun h=>cond (!h) (some (.inr (b,a.2))) ((idx a.2 (w64 (a.1 - 1))).bind fun c=>(idx a.2 a.1).bind fun j=>(idx a.2 a.1).bind fun _=>(idx (a.2.set a.1.toNat c) (w64 (a.1 - 1))).bind fun _=>some (.inl (w64 (a.1 + 1),(a.2.set a.1.toNat c).set (w64 (a.1 - 1)).toNat j)))) (some (.inr (b,a.2)))
noncomputable def q4q (c : Int) (g : Int) (b : Int × Int × List Int) : Option ((Int × Int × List Int) ⊕ ((List Int) ⊕ (Bool × List Int))):=
  cond (decide (b.2.1 < 5)) (((loop (q74 c b) b.1).bind fun a=>cond (a == c) (some (.inr (true,b.2.2))) (cond (decide ((w64 (c - g)) < 50)) (some (.inr (false,b.2.2))) ((idx b.2.2 (w64 (a - 1))).bind fun d=>(idx b.2.2 a).bind fun h=>(idx b.2.2 a).bind fun _=>(idx (b.2.2.set a.toNat d) (w64 (a - 1))).bind fun _=>(cond (decide ((w64 (a - g)) ≥ 2)) ((loop qa0 (w64 (a - 1),(b.2.2.set a.toNat d).set (w64 (a - 1)).toNat h)).bind fun f=>some f) (some ((b.2.2.set a.toNat d).set (w64 (a - 1)).toNat h))).bind fun j=>cond (decide ((w64 (c - a)) ≥ 2)) ((loop (q75 c a) (w64 (a + 1),j)).bind fun f=>some (.inl f)) (some (.inl (a,j))))) : Option ((Int × List Int) ⊕ (Bool × List Int))).bind fun l=>(match l with | .inl k=>some (.inl (k.1,w64 (b.2.1 + 1),k.2)) | .inr m=>some (.inr (.inr m)))) (some (.inr (.inl b.2.2)))
noncomputable def q4p (b : List Int) (a : Int) (c : Int) : Option (Bool × List Int):=
  (loop (q4q c a) (w64 (a + 1),0,b) : Option ((List Int) ⊕ (Bool × List Int))).bind fun d=>(match d with | .inl f=>some (false,f) | .inr g=>some g)
noncomputable def q78 (b : Int × Int × List Int) (c : Int) (a : Int) : Option ((Int) ⊕ (Int)):=
  (cond (decide (a≤b.2.1)) ((idx b.2.2 c).bind fun d=>(idx b.2.2 a).bind fun f=>(Z5 d f).bind fun g=>some (!g)) (some false)).bind fun h=>cond h (some (.inl (w64 (a + 1)))) (some (.inr a))
noncomputable def q79 (c : Int) (b : Int × Int × List Int) (d : Int) (a : Int) : Option ((Int) ⊕ (Int)):=
  (cond (decide (c≤a)) ((idx b.2.2 d).bind fun f=>(idx b.2.2 a).bind fun g=>(Z5 f g).bind fun h=>some h) (some false)).bind fun j=>cond j (some (.inl (w64 (a - 1)))) (some (.inr a))
noncomputable def q77 (d : Int) (a : Int × Int × List Int) : Option ((Int × Int × List Int) ⊕ (Int × List Int)):=
  (loop (q78 a d) a.1).bind fun b=>(loop (q79 b a d) a.2.1).bind fun c=>cond (decide (b > c)) (some (.inr (b,a.2.2))) ((idx a.2.2 c).bind fun f=>(idx a.2.2 b).bind fun g=>(idx a.2.2 b).bind fun _=>(idx (a.2.2.set b.toNat f) c).bind fun _=>some (.inl (w64 (b + 1),w64 (c - 1),(a.2.2.set b.toNat f).set c.toNat g)))
noncomputable def q76 (b : List Int) (a : Int) (g : Int) (c : Int) : Option (Int × List Int):=
  (idx b c).bind fun d=>(idx b a).bind fun h=>(idx b a).bind fun _=>(idx (b.set a.toNat d) c).bind fun _=>(loop (q77 a) (w64 (a + 1),w64 (g - 1),(b.set a.toNat d).set c.toNat h)).bind fun f=>some (f.1,f.2)
noncomputable def q7b (h : Int) (c : List Int) (b : Int) (d : Int) (f : Int) (g : Int) (a : Int) : Option ((Int) ⊕ (Int)):=
  (cond (decide (a≤(w64 (h - 1)))) ((idx ((c.set b.toNat d).set f.toNat g) a).bind fun j=>(idx ((c.set b.toNat d).set f.toNat g) b).bind fun k=>(Z5 j k).bind fun l=>some l) (some false)).bind fun m=>cond m (some (.inl (w64 (a + 1)))) (some (.inr a))
noncomputable def q7c (h : Int) (c : List Int) (b : Int) (d : Int) (f : Int) (g : Int) (a : Int) : Option ((Int) ⊕ (Int)):=
  (cond (decide (h≤a)) ((idx ((c.set b.toNat d).set f.toNat g) a).bind fun j=>(idx ((c.set b.toNat d).set f.toNat g) b).bind fun k=>(Z5 j k).bind fun l=>some (!l)) (some false)).bind fun m=>cond m (some (.inl (w64 (a - 1)))) (some (.inr a))
noncomputable def q7e (b : Int × Int × List Int) (c : Int) (a : Int) : Option ((Int) ⊕ (Int)):=
  (cond (decide (a≤b.2.1)) ((idx b.2.2 a).bind fun d=>(idx b.2.2 c).bind fun f=>(Z5 d f).bind fun g=>some g) (some false)).bind fun h=>cond h (some (.inl (w64 (a + 1)))) (some (.inr a))
noncomputable def q7f (c : Int) (b : Int × Int × List Int) (d : Int) (a : Int) : Option ((Int) ⊕ (Int)):=
  (cond (decide (c≤a)) ((idx b.2.2 a).bind fun f=>(idx b.2.2 d).bind fun g=>(Z5 f g).bind fun h=>some (!h)) (some false)).bind fun j=>cond j (some (.inl (w64 (a - 1)))) (some (.inr a))
noncomputable def q7d (d : Int) (a : Int × Int × List Int) : Option ((Int × Int × List Int) ⊕ (Int × List Int)):=
  (loop (q7e a d) a.1).bind fun b=>(loop (q7f b a d) a.2.1).bind fun c=>cond (decide (b > c)) (some (.inr (c,a.2.2))) ((idx a.2.2 c).bind fun f=>(idx a.2.2 b).bind fun g=>(idx a.2.2 b).bind fun _=>(idx (a.2.2.set b.toNat f) c).bind fun _=>some (.inl (w64 (b + 1),w64 (c - 1),(a.2.2.set b.toNat f).set c.toNat g)))
noncomputable def q7a (b : List Int) (a : Int) (k : Int) (c : Int) : Option (Int × Bool × List Int):=
  (idx b c).bind fun d=>(idx b a).bind fun f=>(idx b a).bind fun _=>(idx (b.set a.toNat d) c).bind fun _=>(loop (q7b k b a d c f) (w64 (a + 1))).bind fun j=>(loop (q7c j b a d c f) (w64 (k - 1))).bind fun g=>cond (decide (j > g)) ((idx ((b.set a.toNat d).set c.toNat f) a).bind fun l=>(idx ((b.set a.toNat d).set c.toNat f) g).bind fun o=>(idx ((b.set a.toNat d).set c.toNat f) g).bind fun _=>(idx (((b.set a.toNat d).set c.toNat f).set g.toNat l) a).bind fun _=>some (g,true,(((b.set a.toNat d).set c.toNat f).set g.toNat l).set a.toNat o)) ((idx ((b.set a.toNat d).set c.toNat f) g).bind fun m=>(idx ((b.set a.toNat d).set c.toNat f) j).bind fun p=>(idx ((b.set a.toNat d).set c.toNat f) j).bind fun _=>(idx (((b.set a.toNat d).set c.toNat f).set j.toNat m) g).bind fun _=>(loop (q7d a) (w64 (j + 1),w64 (g - 1),(((b.set a.toNat d).set c.toNat f).set j.toNat m).set g.toNat p)).bind fun h=>(idx h.2 a).bind fun n=>(idx h.2 h.1).bind fun q=>(idx h.2 h.1).bind fun _=>(idx (h.2.set h.1.toNat n) a).bind fun _=>some (h.1,false,(h.2.set h.1.toNat n).set a.toNat q))
noncomputable def q1w (a : Int) : Option Int:=
  (Uw (IntKind.wrap .u64 a)).bind fun b=>(shlK .u64 1 b).bind fun c=>some c
noncomputable def q1x (a : Int) : Option Int:=
  some (xorI .u64 (xorI .u64 (xorI .u64 a (IntKind.wrap .u64 (a * (2 ^ 13)))) (Int.fdiv (xorI .u64 a (IntKind.wrap .u64 (a * (2 ^ 13)))) (2 ^ 7))) (IntKind.wrap .u64 ((xorI .u64 (xorI .u64 a (IntKind.wrap .u64 (a * (2 ^ 13)))) (Int.fdiv (xorI .u64 a (IntKind.wrap .u64 (a * (2 ^ 13)))) (2 ^ 7))) * (2 ^ 17))))
noncomputable def q6t (b : Int) (d : Int) (f : Int) (a : Int × List Int × Int) : Option ((Int × List Int × Int) ⊕ (List Int)):=
  cond (decide (a.1≤(w64 ((w64 (b + (w64 ((w64 (Int.tdiv (w64 (d - b)) 4)) * 2)))) + 1)))) ((q1x a.2.2).bind fun c=>(cond (decide ((w64 (andI .u64 c (IntKind.wrap .u64 (f - 1)))) ≥ (w64 (d - b)))) (some (w64 ((w64 (andI .u64 c (IntKind.wrap .u64 (f - 1)))) - (w64 (d - b))))) (some (w64 (andI .u64 c (IntKind.wrap .u64 (f - 1)))))).bind fun g=>(idx a.2.1 (w64 (b + g))).bind fun h=>(idx a.2.1 a.1).bind fun j=>(idx a.2.1 a.1).bind fun _=>(idx (a.2.1.set a.1.toNat h) (w64 (b + g))).bind fun _=>some (.inl (w64 (a.1 + 1),(a.2.1.set a.1.toNat h).set (w64 (b + g)).toNat j,c))) (some (.inr a.2.1))
noncomputable def q6s (c : List Int) (a : Int) (b : Int) : Option (List Int):=
  cond (decide ((w64 (b - a)) ≥ 8)) ((q1w (w64 (b - a))).bind fun d=>(loop (q6t a b d) (w64 ((w64 (a + (w64 ((w64 (Int.tdiv (w64 (b - a)) 4)) * 2)))) - 1),c,IntKind.wrap .u64 (w64 (b - a)))).bind fun f=>some f) (some c)
noncomputable def q4r (rec : List Int→Int→Int→Int→Option (List Int)) (a : Int × Int × Int × Bool × Bool × List Int) : Option ((Int × Int × Int × Bool × Bool × List Int) ⊕ (List Int)):=
  cond (decide ((w64 (a.2.1 - a.1))≤12)) ((q6y a.2.2.2.2.2 a.1 a.2.1).bind fun k=>(K2 k.length a.2.2.2.2.2.length).bind fun _=>some (.inr k)) (cond (a.2.2.1 == 0) ((q6v a.2.2.2.2.2 a.1 a.2.1).bind fun l=>(K2 l.length a.2.2.2.2.2.length).bind fun _=>some (.inr l)) ((cond (!a.2.2.2.1) ((q6s a.2.2.2.2.2 a.1 a.2.1).bind fun m=>(K2 m.length a.2.2.2.2.2.length).bind fun _=>some (w64 (a.2.2.1 - 1),m)) (some (a.2.2.1,a.2.2.2.2.2))).bind fun c=>(q6u c.2 a.1 a.2.1).bind fun g=>(cond (g.2 == 2) ((q7k c.2 a.1 a.2.1).bind fun n=>(K2 n.length c.2.length).bind fun _=>some (w64 ((w64 (a.2.1 - 1)) - (w64 (g.1 - a.1))),1,n)) (some (g.1,g.2,c.2))).bind fun d=>(cond a.2.2.2.1 (some a.2.2.2.2.1) (some false)).bind fun q=>(cond q (some (d.2.1 == 1)) (some false)).bind fun r=>(cond r ((q4p d.2.2 a.1 a.2.1).bind fun h=>(K2 h.2.length d.2.2.length).bind fun _=>cond h.1 (some (.inr h.2)) (some (.inl h.2))) (some (.inl d.2.2)) : Option ((List Int) ⊕ (List Int))).bind fun s=>(match s with | .inl f=>(cond (decide (a.1 > 0)) ((idx f (w64 (a.1 - 1))).bind fun t=>(idx f d.1).bind fun u=>(Z5 t u).bind fun v=>some (!v)) (some false)).bind fun x=>cond x ((q76 f a.1 a.2.1 d.1).bind fun j=>(K2 j.2.length f.length).bind fun _=>some (.inl (j.1,a.2.1,c.1,a.2.2.2.1,a.2.2.2.2.1,j.2))) ((q7a f a.1 a.2.1 d.1).bind fun b=>(K2 b.2.2.length f.length).bind fun _=>cond (decide ((w64 (b.1 - a.1)) < (w64 (a.2.1 - b.1)))) ((rec b.2.2 a.1 b.1 c.1).bind fun o=>(K2 o.length b.2.2.length).bind fun _=>some (.inl (w64 (b.1 + 1),a.2.1,c.1,decide ((w64 (b.1 - a.1)) ≥ (w64 (Int.tdiv (w64 (a.2.1 - a.1)) 8))),b.2.1,o))) ((rec b.2.2 (w64 (b.1 + 1)) a.2.1 c.1).bind fun p=>(K2 p.length b.2.2.length).bind fun _=>some (.inl (a.1,b.1,c.1,decide ((w64 (a.2.1 - b.1)) ≥ (w64 (Int.tdiv (w64 (a.2.1 - a.1)) 8))),b.2.1,p)))) | .inr y=>some (.inr y))))
noncomputable def q4s (rec : List Int→Int→Int→Int→Option (List Int)) (a : List Int) (b : Int) (c : Int) (d : Int) : Option (List Int):=
  (loop (q4r rec) (b,c,d,true,true,a)).bind fun f=>some f
noncomputable def q7j : Nat→List Int→Int→Int→Int→Option (List Int)
  | 0,_,_,_,_=>none
  | n + 1,a,b,c,d=>q4s (q7j n)  a b c d
noncomputable def U2 (a : List Int) : Option (List Int):=
  (Uw (IntKind.wrap .u64 (a.length : Int))).bind fun c=>(lim (fun n=>q7j n a 0 (a.length : Int) c)).bind fun b=>(K2 b.length a.length).bind fun _=>some b
noncomputable def q1v (a : Int × (Nat × Nat) × Int × List Int) : Option ((Int × (Nat × Nat) × Int × List Int) ⊕ (Int × List Int)):=
  cond (decide (a.2.2.1 < (a.2.1.2 : Int))) (((idxW a.2.2.2 a.2.1 a.2.2.1).bind fun c=>(idxW a.2.2.2 a.2.1 (w64 (a.2.2.1 - 1))).bind fun d=>cond (c != d) ((idxW a.2.2.2 a.2.1 a.2.2.1).bind fun f=>(idx a.2.2.2 a.1).bind fun _=>some (w64 (a.1 + 1),a.2.1,a.2.2.2.set a.1.toNat f)) (some (a.1,a.2.1,a.2.2.2))).bind fun b=>some (.inl (b.1,b.2.1,w64 (a.2.2.1 + 1),b.2.2))) (some (.inr (a.1,a.2.2.2)))
noncomputable def Jg (a : List Int) (b : Int) : Option ((Int) ⊕ ((Unit) ⊕ ((Nat × Nat) × List Int))):=
  cond (decide (b < (a.length : Int))) ((idx a b).bind fun d=>(idx a (w64 (b - 1))).bind fun f=>cond (d == f) ((sub2 a.length b a.length).bind fun g=>(loop q1v (b,g,1,a)).bind fun c=>(sub2 c.2.length c.1 c.2.length).bind fun h=>(sub2 c.2.length 0 c.1).bind fun j=>some (.inr (.inr (j,clrw c.2 h 0)))) (some (.inl (w64 (b + 1))))) (some (.inr (.inl ())))
noncomputable def Uy (a : List Int) : Option ((Nat × Nat) × List Int):=
  cond (decide ((a.length : Int) < 2)) (some ((0,a.length),a)) ((loop (Jg a) 1 : Option ((Unit) ⊕ ((Nat × Nat) × List Int))).bind fun b=>(match b with | .inl _=>some ((0,a.length),a) | .inr c=>some c))
structure qi where
  X0 : Int
  Y0 : Int
  X1 : Int
  Y1 : Int
  deriving DecidableEq
def qy (x : qi) : List DV:=[.int .i64 x.X0,.int .i64 x.Y0,.int .i64 x.X1,.int .i64 x.Y1]
noncomputable def q4k (b : List qi) (c : qi→Option Bool) (a : Int) : Option ((Int) ⊕ ((Unit) ⊕ (Int))):=
  cond (decide (a < (b.length : Int))) ((idx b a).bind fun d=>(c d).bind fun f=>cond f (some (.inr (.inr a))) (some (.inl (w64 (a + 1))))) (some (.inr (.inl ())))
noncomputable def qd9 (a : List qi) (b : qi→Option Bool) : Option Int:=
  (loop (q4k a b) 0 : Option ((Unit) ⊕ (Int))).bind fun c=>(match c with | .inl _=>some (-1) | .inr d=>some d)
noncomputable def q9k (a : List qi) (b : qi→Option Bool) : Option Bool:=
  (qd9 a b).bind fun c=>some (decide (c ≥ 0))
noncomputable def q2z (a : Int) : Option Bool:=
  (cond (decide (a ≥ (-1000000))) (some (decide (a≤1000000))) (some false)).bind fun b=>some b
noncomputable def q6i (a : qi) : Option Bool:=
  (cond (decide (a.X0 < a.X1)) (some (decide (a.Y0 < a.Y1))) (some false)).bind fun b=>(cond b ((q2z a.X0).bind fun c=>some c) (some false)).bind fun d=>(cond d ((q2z a.X1).bind fun f=>some f) (some false)).bind fun g=>(cond g ((q2z a.Y0).bind fun h=>some h) (some false)).bind fun j=>(cond j ((q2z a.Y1).bind fun k=>some k) (some false)).bind fun l=>some l
noncomputable def q2y (a : qi) : Option Bool:=
  (q6i a).bind fun b=>some (!b)
def Kj (x : List qi) : List DV:=[.sl 4 (x.map qy)]
structure qj where
  Lo : Int
  Hi : Int
  deriving DecidableEq
def Qi (x : qj) : List DV:=[.int .i64 x.Lo,.int .i64 x.Hi]
noncomputable def q34 (b : List qj) (c : qj→Option Bool) (a : Int) : Option ((Int) ⊕ ((Unit) ⊕ (Int))):=
  cond (decide (a < (b.length : Int))) ((idx b a).bind fun d=>(c d).bind fun f=>cond f (some (.inr (.inr a))) (some (.inl (w64 (a + 1))))) (some (.inr (.inl ())))
noncomputable def q9n (a : List qj) (b : qj→Option Bool) : Option Int:=
  (loop (q34 a b) 0 : Option ((Unit) ⊕ (Int))).bind fun c=>(match c with | .inl _=>some (-1) | .inr d=>some d)
noncomputable def q9m (a : List qj) (b : qj→Option Bool) : Option Bool:=
  (q9n a b).bind fun c=>some (decide (c ≥ 0))
noncomputable def q3b (a : qj) : Option Bool:=
  (cond (decide (a.Lo < a.Hi)) (some (decide (a.Lo ≥ (-1000000)))) (some false)).bind fun b=>(cond b (some (decide (a.Hi≤1000000))) (some false)).bind fun c=>some c
noncomputable def qdj (a : qj) : Option Bool:=
  (q3b a).bind fun b=>some (!b)
def q18 (x : List qj) : List DV:=[.sl 2 (x.map Qi)]
structure qn where
  at_ : Int
  list_ : Int
  by_ : Int
  deriving DecidableEq
def Qf (x : qn) : List DV:=[.int .i64 x.at_,.int .i64 x.list_,.int .i64 x.by_]
noncomputable def qao (a : qn) (b : qn) : Option Int:=
  some (w64 (a.at_ - b.at_))
noncomputable def q9w (c : Int) (d : qn→qn→Option Int) (a : Int × List qn) : Option ((Int × List qn) ⊕ (List qn)):=
  (cond (decide (a.1 > c)) ((idx a.2 a.1).bind fun f=>(idx a.2 (w64 (a.1 - 1))).bind fun g=>(d f g).bind fun h=>some (decide (h < 0))) (some false)).bind fun j=>cond j ((idx a.2 (w64 (a.1 - 1))).bind fun b=>(idx a.2 a.1).bind fun k=>(idx a.2 a.1).bind fun _=>(idx (a.2.set a.1.toNat b) (w64 (a.1 - 1))).bind fun _=>some (.inl (w64 (a.1 - 1),(a.2.set a.1.toNat b).set (w64 (a.1 - 1)).toNat k))) (some (.inr a.2))
noncomputable def q9v (b : Int) (c : Int) (d : qn→qn→Option Int) (a : Int × List qn) : Option ((Int × List qn) ⊕ (List qn)):=
  cond (decide (a.1 < b)) (((loop (q9w c d) (a.1,a.2)).bind fun f=>some f).bind fun g=>some (.inl (w64 (a.1 + 1),g))) (some (.inr a.2))
noncomputable def q9u (b : qn→qn→Option Int) (c : List qn) (a : Int) (d : Int) : Option (List qn):=
  (loop (q9v d a b) (w64 (a + 1),c)).bind fun f=>some f
noncomputable def qae (d : Int) (b : Int) (f : qn→qn→Option Int) (a : Int × List qn) : Option ((Int × List qn) ⊕ (List qn)):=
  cond (decide ((w64 ((w64 (2 * a.1)) + 1)) ≥ d)) (some (.inr a.2)) ((cond (decide ((w64 ((w64 ((w64 (2 * a.1)) + 1)) + 1)) < d)) ((idx a.2 (w64 (b + (w64 ((w64 (2 * a.1)) + 1))))).bind fun h=>(idx a.2 (w64 ((w64 (b + (w64 ((w64 (2 * a.1)) + 1)))) + 1))).bind fun j=>(f h j).bind fun k=>some (decide (k < 0))) (some false)).bind fun l=>(cond l (some (w64 ((w64 ((w64 (2 * a.1)) + 1)) + 1))) (some (w64 ((w64 (2 * a.1)) + 1)))).bind fun c=>(idx a.2 (w64 (b + a.1))).bind fun m=>(idx a.2 (w64 (b + c))).bind fun n=>(f m n).bind fun o=>cond (!(decide (o < 0))) (some (.inr a.2)) ((idx a.2 (w64 (b + c))).bind fun g=>(idx a.2 (w64 (b + a.1))).bind fun p=>(idx a.2 (w64 (b + a.1))).bind fun _=>(idx (a.2.set (w64 (b + a.1)).toNat g) (w64 (b + c))).bind fun _=>some (.inl (c,(a.2.set (w64 (b + a.1)).toNat g).set (w64 (b + c)).toNat p))))
noncomputable def q7l (a : qn→qn→Option Int) (b : List qn) (c : Int) (d : Int) (f : Int) : Option (List qn):=
  (loop (qae d f a) (c,b)).bind fun g=>some g
noncomputable def q9s (d : qn→qn→Option Int) (f : Int) (b : Int) (a : Int × List qn) : Option ((Int × List qn) ⊕ (List qn)):=
  cond (decide (a.1 ≥ 0)) ((q7l d a.2 a.1 (w64 (f - b)) b).bind fun c=>(K2 c.length a.2.length).bind fun _=>some (.inl (w64 (a.1 - 1),c))) (some (.inr a.2))
noncomputable def q9t (b : Int) (g : qn→qn→Option Int) (a : Int × List qn) : Option ((Int × List qn) ⊕ (List qn)):=
  cond (decide (a.1 ≥ 0)) ((idx a.2 (w64 (b + a.1))).bind fun c=>(idx a.2 b).bind fun d=>(idx a.2 b).bind fun _=>(idx (a.2.set b.toNat c) (w64 (b + a.1))).bind fun _=>(q7l g ((a.2.set b.toNat c).set (w64 (b + a.1)).toNat d) 0 a.1 b).bind fun f=>(K2 f.length ((a.2.set b.toNat c).set (w64 (b + a.1)).toNat d).length).bind fun _=>some (.inl (w64 (a.1 - 1),f))) (some (.inr a.2))
noncomputable def q9r (c : qn→qn→Option Int) (d : List qn) (a : Int) (b : Int) : Option (List qn):=
  (loop (q9s c b a) (w64 (Int.tdiv (w64 ((w64 (b - a)) - 1)) 2),d)).bind fun f=>(loop (q9t a c) (w64 ((w64 (b - a)) - 1),f)).bind fun g=>some g
noncomputable def q4o (f : qn→qn→Option Int) (c : List qn) (a : Int) (b : Int) (d : Int) : Option (Int × Int × Int):=
  (idx c b).bind fun g=>(idx c a).bind fun h=>(f g h).bind fun j=>cond (decide (j < 0)) (some (b,a,w64 (d + 1))) (some (a,b,d))
noncomputable def q71 (a : qn→qn→Option Int) (b : List qn) (g : Int) (h : Int) (j : Int) (k : Int) : Option (Int × Int):=
  (q4o a b g h k).bind fun c=>(q4o a b c.2.1 j c.2.2).bind fun d=>(q4o a b c.1 d.1 d.2.2).bind fun f=>some (f.2.1,f.2.2)
noncomputable def q4m (c : qn→qn→Option Int) (d : List qn) (a : Int) (f : Int) : Option (Int × Int):=
  (q71 c d (w64 (a - 1)) a (w64 (a + 1)) f).bind fun b=>some (b.1,b.2)
noncomputable def q9q (d : List qn) (a : Int) (b : Int) (f : qn→qn→Option Int) : Option (Int × Int):=
  (cond (decide ((w64 (b - a)) ≥ 8)) ((cond (decide ((w64 (b - a)) ≥ 50)) ((q4m f d (w64 (a + (w64 ((w64 (Int.tdiv (w64 (b - a)) 4)) * 1)))) 0).bind fun h=>(q4m f d (w64 (a + (w64 ((w64 (Int.tdiv (w64 (b - a)) 4)) * 2)))) h.2).bind fun j=>(q4m f d (w64 (a + (w64 ((w64 (Int.tdiv (w64 (b - a)) 4)) * 3)))) j.2).bind fun k=>some (h.1,j.1,k.1,k.2)) (some (w64 (a + (w64 ((w64 (Int.tdiv (w64 (b - a)) 4)) * 1))),w64 (a + (w64 ((w64 (Int.tdiv (w64 (b - a)) 4)) * 2))),w64 (a + (w64 ((w64 (Int.tdiv (w64 (b - a)) 4)) * 3))),0))).bind fun g=>(q71 f d g.1 g.2.1 g.2.2.1 g.2.2.2).bind fun l=>some (l.1,l.2)) (some (w64 (a + (w64 ((w64 (Int.tdiv (w64 (b - a)) 4)) * 2))),0))).bind fun c=>cond (c.2 == 0) (some (c.1,1)) (cond (c.2 == 12) (some (c.1,2)) (some (c.1,0)))
noncomputable def qac (a : Int × Int × List qn) : Option ((Int × Int × List qn) ⊕ (List qn)):=
  cond (decide (a.1 < a.2.1)) ((idx a.2.2 a.2.1).bind fun b=>(idx a.2.2 a.1).bind fun c=>(idx a.2.2 a.1).bind fun _=>(idx (a.2.2.set a.1.toNat b) a.2.1).bind fun _=>some (.inl (w64 (a.1 + 1),w64 (a.2.1 - 1),(a.2.2.set a.1.toNat b).set a.2.1.toNat c))) (some (.inr a.2.2))
noncomputable def qab (f : qn→qn→Option Int) (a : List qn) (b : Int) (c : Int) : Option (List qn):=
  (loop qac (b,w64 (c - 1),a)).bind fun d=>some d
noncomputable def q9x (c : Int) (b : Int × Int × List qn) (d : qn→qn→Option Int) (a : Int) : Option ((Int) ⊕ (Int)):=
  (cond (decide (a < c)) ((idx b.2.2 a).bind fun f=>(idx b.2.2 (w64 (a - 1))).bind fun g=>(d f g).bind fun h=>some (!(decide (h < 0)))) (some false)).bind fun j=>cond j (some (.inl (w64 (a + 1)))) (some (.inr a))
noncomputable def q9y (c : qn→qn→Option Int) (a : Int × List qn) : Option ((Int × List qn) ⊕ (List qn)):=
  cond (decide (a.1 ≥ 1)) ((idx a.2 a.1).bind fun d=>(idx a.2 (w64 (a.1 - 1))).bind fun f=>(c d f).bind fun g=>cond (!(decide (g < 0))) (some (.inr a.2)) ((idx a.2 (w64 (a.1 - 1))).bind fun b=>(idx a.2 a.1).bind fun h=>(idx a.2 a.1).bind fun _=>(idx (a.2.set a.1.toNat b) (w64 (a.1 - 1))).bind fun _=>some (.inl (w64 (a.1 - 1),(a.2.set a.1.toNat b).set (w64 (a.1 - 1)).toNat h)))) (some (.inr a.2))
noncomputable def q9z (d : Int) (f : qn→qn→Option Int) (b : Int) (a : Int × List qn) : Option ((Int × List qn) ⊕ (Int × List qn)):=
  cond (decide (a.1 < d)) ((idx a.2 a.1).bind fun g=>(idx a.2 (w64 (a.1 - 1))).bind fun h=>(f g h).bind fun j=>cond (!(decide (j < 0))) (some (.inr (b,a.2))) ((idx a.2 (w64 (a.1 - 1))).bind fun c=>(idx a.2 a.1).bind fun k=>(idx a.2 a.1).bind fun _=>(idx (a.2.set a.1.toNat c) (w64 (a.1 - 1))).bind fun _=>some (.inl (w64 (a.1 + 1),(a.2.set a.1.toNat c).set (w64 (a.1 - 1)).toNat k)))) (some (.inr (b,a.2)))
noncomputable def q73 (c : Int) (d : qn→qn→Option Int) (h : Int) (b : Int × Int × List qn) : Option ((Int × Int × List qn) ⊕ ((List qn) ⊕ (Bool × List qn))):=
  cond (decide (b.2.1 < 5)) (((loop (q9x c b d) b.1).bind fun a=>cond (a == c) (some (.inr (true,b.2.2))) (cond (decide ((w64 (c - h)) < 50)) (some (.inr (false,b.2.2))) ((idx b.2.2 (w64 (a - 1))).bind fun f=>(idx b.2.2 a).bind fun j=>(idx b.2.2 a).bind fun _=>(idx (b.2.2.set a.toNat f) (w64 (a - 1))).bind fun _=>(cond (decide ((w64 (a - h)) ≥ 2)) ((loop (q9y d) (w64 (a - 1),(b.2.2.set a.toNat f).set (w64 (a - 1)).toNat j)).bind fun g=>some g) (some ((b.2.2.set a.toNat f).set (w64 (a - 1)).toNat j))).bind fun k=>cond (decide ((w64 (c - a)) ≥ 2)) ((loop (q9z c d a) (w64 (a + 1),k)).bind fun g=>some (.inl g)) (some (.inl (a,k))))) : Option ((Int × List qn) ⊕ (Bool × List qn))).bind fun m=>(match m with | .inl l=>some (.inl (l.1,w64 (b.2.1 + 1),l.2)) | .inr n=>some (.inr (.inr n)))) (some (.inr (.inl b.2.2)))
noncomputable def q72 (b : qn→qn→Option Int) (c : List qn) (a : Int) (d : Int) : Option (Bool × List qn):=
  (loop (q73 d b a) (w64 (a + 1),0,c) : Option ((List qn) ⊕ (Bool × List qn))).bind fun f=>(match f with | .inl g=>some (false,g) | .inr h=>some h)
noncomputable def qa9 (b : Int × Int × List qn) (c : Int) (d : qn→qn→Option Int) (a : Int) : Option ((Int) ⊕ (Int)):=
  (cond (decide (a≤b.2.1)) ((idx b.2.2 c).bind fun f=>(idx b.2.2 a).bind fun g=>(d f g).bind fun h=>some (!(decide (h < 0)))) (some false)).bind fun j=>cond j (some (.inl (w64 (a + 1)))) (some (.inr a))
noncomputable def qaa (c : Int) (b : Int × Int × List qn) (d : Int) (f : qn→qn→Option Int) (a : Int) : Option ((Int) ⊕ (Int)):=
  (cond (decide (c≤a)) ((idx b.2.2 d).bind fun g=>(idx b.2.2 a).bind fun h=>(f g h).bind fun j=>some (decide (j < 0))) (some false)).bind fun k=>cond k (some (.inl (w64 (a - 1)))) (some (.inr a))
noncomputable def qa8 (d : Int) (f : qn→qn→Option Int) (a : Int × Int × List qn) : Option ((Int × Int × List qn) ⊕ (Int × List qn)):=
  (loop (qa9 a d f) a.1).bind fun b=>(loop (qaa b a d f) a.2.1).bind fun c=>cond (decide (b > c)) (some (.inr (b,a.2.2))) ((idx a.2.2 c).bind fun g=>(idx a.2.2 b).bind fun h=>(idx a.2.2 b).bind fun _=>(idx (a.2.2.set b.toNat g) c).bind fun _=>some (.inl (w64 (b + 1),w64 (c - 1),(a.2.2.set b.toNat g).set c.toNat h)))
noncomputable def qa7 (g : qn→qn→Option Int) (b : List qn) (a : Int) (h : Int) (c : Int) : Option (Int × List qn):=
  (idx b c).bind fun d=>(idx b a).bind fun j=>(idx b a).bind fun _=>(idx (b.set a.toNat d) c).bind fun _=>(loop (qa8 a g) (w64 (a + 1),w64 (h - 1),(b.set a.toNat d).set c.toNat j)).bind fun f=>some (f.1,f.2)
noncomputable def qa2 (h : Int) (c : List qn) (b : Int) (d : qn) (f : Int) (g : qn) (j : qn→qn→Option Int) (a : Int) : Option ((Int) ⊕ (Int)):=
  (cond (decide (a≤(w64 (h - 1)))) ((idx ((c.set b.toNat d).set f.toNat g) a).bind fun k=>(idx ((c.set b.toNat d).set f.toNat g) b).bind fun l=>(j k l).bind fun m=>some (decide (m < 0))) (some false)).bind fun n=>cond n (some (.inl (w64 (a + 1)))) (some (.inr a))
noncomputable def qa3 (h : Int) (c : List qn) (b : Int) (d : qn) (f : Int) (g : qn) (j : qn→qn→Option Int) (a : Int) : Option ((Int) ⊕ (Int)):=
  (cond (decide (h≤a)) ((idx ((c.set b.toNat d).set f.toNat g) a).bind fun k=>(idx ((c.set b.toNat d).set f.toNat g) b).bind fun l=>(j k l).bind fun m=>some (!(decide (m < 0)))) (some false)).bind fun n=>cond n (some (.inl (w64 (a - 1)))) (some (.inr a))
noncomputable def qa5 (b : Int × Int × List qn) (c : Int) (d : qn→qn→Option Int) (a : Int) : Option ((Int) ⊕ (Int)):=
  (cond (decide (a≤b.2.1)) ((idx b.2.2 a).bind fun f=>(idx b.2.2 c).bind fun g=>(d f g).bind fun h=>some (decide (h < 0))) (some false)).bind fun j=>cond j (some (.inl (w64 (a + 1)))) (some (.inr a))
noncomputable def qa6 (c : Int) (b : Int × Int × List qn) (d : Int) (f : qn→qn→Option Int) (a : Int) : Option ((Int) ⊕ (Int)):=
  (cond (decide (c≤a)) ((idx b.2.2 a).bind fun g=>(idx b.2.2 d).bind fun h=>(f g h).bind fun j=>some (!(decide (j < 0)))) (some false)).bind fun k=>cond k (some (.inl (w64 (a - 1)))) (some (.inr a))
noncomputable def qa4 (d : Int) (f : qn→qn→Option Int) (a : Int × Int × List qn) : Option ((Int × Int × List qn) ⊕ (Int × List qn)):=
  (loop (qa5 a d f) a.1).bind fun b=>(loop (qa6 b a d f) a.2.1).bind fun c=>cond (decide (b > c)) (some (.inr (c,a.2.2))) ((idx a.2.2 c).bind fun g=>(idx a.2.2 b).bind fun h=>(idx a.2.2 b).bind fun _=>(idx (a.2.2.set b.toNat g) c).bind fun _=>some (.inl (w64 (b + 1),w64 (c - 1),(a.2.2.set b.toNat g).set c.toNat h)))
noncomputable def qa1 (k : qn→qn→Option Int) (b : List qn) (a : Int) (l : Int) (c : Int) : Option (Int × Bool × List qn):=
  (idx b c).bind fun d=>(idx b a).bind fun f=>(idx b a).bind fun _=>(idx (b.set a.toNat d) c).bind fun _=>(loop (qa2 l b a d c f k) (w64 (a + 1))).bind fun j=>(loop (qa3 j b a d c f k) (w64 (l - 1))).bind fun g=>cond (decide (j > g)) ((idx ((b.set a.toNat d).set c.toNat f) a).bind fun m=>(idx ((b.set a.toNat d).set c.toNat f) g).bind fun p=>(idx ((b.set a.toNat d).set c.toNat f) g).bind fun _=>(idx (((b.set a.toNat d).set c.toNat f).set g.toNat m) a).bind fun _=>some (g,true,(((b.set a.toNat d).set c.toNat f).set g.toNat m).set a.toNat p)) ((idx ((b.set a.toNat d).set c.toNat f) g).bind fun n=>(idx ((b.set a.toNat d).set c.toNat f) j).bind fun q=>(idx ((b.set a.toNat d).set c.toNat f) j).bind fun _=>(idx (((b.set a.toNat d).set c.toNat f).set j.toNat n) g).bind fun _=>(loop (qa4 a k) (w64 (j + 1),w64 (g - 1),(((b.set a.toNat d).set c.toNat f).set j.toNat n).set g.toNat q)).bind fun h=>(idx h.2 a).bind fun o=>(idx h.2 h.1).bind fun r=>(idx h.2 h.1).bind fun _=>(idx (h.2.set h.1.toNat o) a).bind fun _=>some (h.1,false,(h.2.set h.1.toNat o).set a.toNat r))
noncomputable def q9p (b : Int) (d : Int) (f : Int) (a : Int × List qn × Int) : Option ((Int × List qn × Int) ⊕ (List qn)):=
  cond (decide (a.1≤(w64 ((w64 (b + (w64 ((w64 (Int.tdiv (w64 (d - b)) 4)) * 2)))) + 1)))) ((q1x a.2.2).bind fun c=>(cond (decide ((w64 (andI .u64 c (IntKind.wrap .u64 (f - 1)))) ≥ (w64 (d - b)))) (some (w64 ((w64 (andI .u64 c (IntKind.wrap .u64 (f - 1)))) - (w64 (d - b))))) (some (w64 (andI .u64 c (IntKind.wrap .u64 (f - 1)))))).bind fun g=>(idx a.2.1 (w64 (b + g))).bind fun h=>(idx a.2.1 a.1).bind fun j=>(idx a.2.1 a.1).bind fun _=>(idx (a.2.1.set a.1.toNat h) (w64 (b + g))).bind fun _=>some (.inl (w64 (a.1 + 1),(a.2.1.set a.1.toNat h).set (w64 (b + g)).toNat j,c))) (some (.inr a.2.1))
noncomputable def q9o (g : qn→qn→Option Int) (c : List qn) (a : Int) (b : Int) : Option (List qn):=
  cond (decide ((w64 (b - a)) ≥ 8)) ((q1w (w64 (b - a))).bind fun d=>(loop (q9p a b d) (w64 ((w64 (a + (w64 ((w64 (Int.tdiv (w64 (b - a)) 4)) * 2)))) - 1),c,IntKind.wrap .u64 (w64 (b - a)))).bind fun f=>some f) (some c)
noncomputable def q7h (c : qn→qn→Option Int) (rec : List qn→Int→Int→Int→Option (List qn)) (a : Int × Int × Int × Bool × Bool × List qn) : Option ((Int × Int × Int × Bool × Bool × List qn) ⊕ (List qn)):=
  cond (decide ((w64 (a.2.1 - a.1))≤12)) ((q9u c a.2.2.2.2.2 a.1 a.2.1).bind fun l=>(K2 l.length a.2.2.2.2.2.length).bind fun _=>some (.inr l)) (cond (a.2.2.1 == 0) ((q9r c a.2.2.2.2.2 a.1 a.2.1).bind fun m=>(K2 m.length a.2.2.2.2.2.length).bind fun _=>some (.inr m)) ((cond (!a.2.2.2.1) ((q9o c a.2.2.2.2.2 a.1 a.2.1).bind fun n=>(K2 n.length a.2.2.2.2.2.length).bind fun _=>some (w64 (a.2.2.1 - 1),n)) (some (a.2.2.1,a.2.2.2.2.2))).bind fun d=>(q9q d.2 a.1 a.2.1 c).bind fun h=>(cond (h.2 == 2) ((qab c d.2 a.1 a.2.1).bind fun o=>(K2 o.length d.2.length).bind fun _=>some (w64 ((w64 (a.2.1 - 1)) - (w64 (h.1 - a.1))),1,o)) (some (h.1,h.2,d.2))).bind fun f=>(cond a.2.2.2.1 (some a.2.2.2.2.1) (some false)).bind fun r=>(cond r (some (f.2.1 == 1)) (some false)).bind fun s=>(cond s ((q72 c f.2.2 a.1 a.2.1).bind fun j=>(K2 j.2.length f.2.2.length).bind fun _=>cond j.1 (some (.inr j.2)) (some (.inl j.2))) (some (.inl f.2.2)) : Option ((List qn) ⊕ (List qn))).bind fun t=>(match t with | .inl g=>(cond (decide (a.1 > 0)) ((idx g (w64 (a.1 - 1))).bind fun u=>(idx g f.1).bind fun v=>(c u v).bind fun x=>some (!(decide (x < 0)))) (some false)).bind fun y=>cond y ((qa7 c g a.1 a.2.1 f.1).bind fun k=>(K2 k.2.length g.length).bind fun _=>some (.inl (k.1,a.2.1,d.1,a.2.2.2.1,a.2.2.2.2.1,k.2))) ((qa1 c g a.1 a.2.1 f.1).bind fun b=>(K2 b.2.2.length g.length).bind fun _=>cond (decide ((w64 (b.1 - a.1)) < (w64 (a.2.1 - b.1)))) ((rec b.2.2 a.1 b.1 d.1).bind fun p=>(K2 p.length b.2.2.length).bind fun _=>some (.inl (w64 (b.1 + 1),a.2.1,d.1,decide ((w64 (b.1 - a.1)) ≥ (w64 (Int.tdiv (w64 (a.2.1 - a.1)) 8))),b.2.1,p))) ((rec b.2.2 (w64 (b.1 + 1)) a.2.1 d.1).bind fun q=>(K2 q.length b.2.2.length).bind fun _=>some (.inl (a.1,b.1,d.1,decide ((w64 (a.2.1 - b.1)) ≥ (w64 (Int.tdiv (w64 (a.2.1 - a.1)) 8))),b.2.1,q)))) | .inr z=>some (.inr z))))
noncomputable def q7i (rec : List qn→Int→Int→Int→Option (List qn)) (a : qn→qn→Option Int) (b : List qn) (c : Int) (d : Int) (f : Int) : Option (List qn):=
  (loop (q7h a rec) (c,d,f,true,true,b)).bind fun g=>some g
noncomputable def q7g : Nat→(qn→qn→Option Int)→List qn→Int→Int→Int→Option (List qn)
  | 0,_,_,_,_,_=>none
  | n + 1,a,b,c,d,f=>q7i (q7g n a) a b c d f
noncomputable def q6r (c : qn→qn→Option Int) (a : List qn) : Option (List qn):=
  (Uw (IntKind.wrap .u64 (a.length : Int))).bind fun d=>(lim (fun n=>q7g n c a 0 (a.length : Int) d)).bind fun b=>(K2 b.length a.length).bind fun _=>some b
noncomputable def qdc (a : List qn) : Option (List qn):=
  some a
noncomputable def q4z (b : List qj) (c : Int × List qn) (a : Int × List qn) : Option ((Int × List qn) ⊕ (List qn)):=
  cond (decide (a.1 < (b.length : Int))) ((idx b a.1).bind fun d=>(app 24 a.2 [({at_:=d.Lo,list_:=c.1,by_:=1} : qn),({at_:=d.Hi,list_:=c.1,by_:=(-1)} : qn)]).bind fun f=>some (.inl (w64 (a.1 + 1),f))) (some (.inr a.2))
noncomputable def Uz (b : List (List qj)) (a : Int × List qn) : Option ((Int × List qn) ⊕ (List qn)):=
  cond (decide (a.1 < (b.length : Int))) (((idx b a.1).bind fun c=>(loop (q4z c a) (0,a.2)).bind fun d=>some d).bind fun f=>some (.inl (w64 (a.1 + 1),f))) (some (.inr a.2))
noncomputable def qap (b : List (List qj)) : Option (List (List qj) × List qn):=
  (loop (Uz b) (0,[])).bind fun c=>(q6r (fun f g=>qao f g) c).bind fun a=>(K2 a.length c.length).bind fun _=>(qdc a).bind fun d=>(K2 d.length a.length).bind fun _=>some (b,d)
noncomputable def qaq (d : Int) (c : Bool) (b : Int) (a : List qj) : Option (Bool × Int × List qj):=
  (cond (!c) (some true) (some (b == d))).bind fun f=>cond f (some (c,b,a)) ((cond (decide ((a.length : Int) > 0)) ((idx a (w64 ((a.length : Int) - 1))).bind fun g=>some (g.Hi == b)) (some false)).bind fun h=>cond h ((idx a (w64 ((a.length : Int) - 1))).bind fun j=>some (c,b,a.set (w64 ((a.length : Int) - 1)).toNat ({Lo:=j.Lo,Hi:=d} : qj))) ((app 16 a [({Lo:=b,Hi:=d} : qj)]).bind fun k=>some (c,b,k)))
noncomputable def q50 (f : List (List qj) × List qn) (g : Bool→Bool→Option Bool) (a : Int × List Int × Int × Bool × List qj) : Option ((Int × List Int × Int × Bool × List qj) ⊕ (List qj)):=
  cond (decide (a.1 < (f.2.length : Int))) ((idx f.2 a.1).bind fun b=>((qaq b.at_ a.2.2.2.1 a.2.2.1 a.2.2.2.2).bind fun h=>(idxA 2 a.2.1 b.list_).bind fun c=>(idxA 2 a.2.1 b.list_).bind fun _=>(idxA 2 (a.2.1.set b.list_.toNat (w64 (c + b.by_))) 0).bind fun j=>(idxA 2 (a.2.1.set b.list_.toNat (w64 (c + b.by_))) 1).bind fun k=>(g (decide (j > 0)) (decide (k > 0))).bind fun l=>some (a.2.1.set b.list_.toNat (w64 (c + b.by_)),l,h.2.2)).bind fun d=>some (.inl (w64 (a.1 + 1),d.1,b.at_,d.2.1,d.2.2))) (some (.inr a.2.2.2.2))
noncomputable def q3a (a : List qj) (b : List qj) (d : Bool→Bool→Option Bool) : Option (List qj):=
  (qap [a,b]).bind fun c=>(K2 c.1.length [a,b].length).bind fun _=>((loop (q50 c d) (0,[0,0],0,false,[])).bind fun f=>some f).bind fun g=>some g
noncomputable def qam (a : Bool) (b : Bool) : Option Bool:=
  some a
noncomputable def q7r (a : List qj) : Option (List qj × Int):=
  cond (decide ((a.length : Int) > 400)) (some ([],4)) ((q9m a (fun b=>qdj b)).bind fun c=>cond c (some ([],8)) ((q3a a [] (fun b d=>qam b d)).bind fun f=>some (f,0)))
noncomputable def qd8 (b : List qj) (f : List qj) (a : Int) : Option ((Int) ⊕ ((Unit) ⊕ (Bool))):=
  cond (decide (a < (b.length : Int))) ((idx b a).bind fun c=>(idx f a).bind fun d=>cond (!((c.Lo == d.Lo) && ((c.Hi == d.Hi) && true))) (some (.inr (.inr false))) (some (.inl (w64 (a + 1))))) (some (.inr (.inl ())))
noncomputable def q6p (a : List qj) (b : List qj) : Option Bool:=
  cond ((a.length : Int) != (b.length : Int)) (some false) ((loop (qd8 a b) 0 : Option ((Unit) ⊕ (Bool))).bind fun c=>(match c with | .inl _=>some true | .inr d=>some d))
noncomputable def q6f (c : Int) (a : Int × List qi) : Option ((Int × List qi) ⊕ (List qi)):=
  cond (decide (a.1 < (a.2.length : Int))) ((idx a.2 a.1).bind fun b=>some (.inl (w64 (a.1 + 1),a.2.set a.1.toNat ({X0:=b.X0,Y0:=b.Y0,X1:=c,Y1:=b.Y1} : qi)))) (some (.inr a.2))
noncomputable def q6g (b : List qj) (f : Int) (c : Int) (g : List qi) (a : Int × List qi) : Option ((Int × List qi) ⊕ (List qj × Int × Int × List qi)):=
  cond (decide (a.1 < (b.length : Int))) ((idx b a.1).bind fun d=>(app 32 a.2 [({X0:=f,Y0:=d.Lo,X1:=c,Y1:=d.Hi} : qi)]).bind fun h=>some (.inl (w64 (a.1 + 1),h))) (some (.inr (b,(g.length : Int),c,a.2)))
noncomputable def q6e (a : List qi) (d : List qj) (f : Int) (h : Int) (g : Int) (b : Int) (c : List qj) : Option (List qj × Int × Int × List qi):=
  (cond (decide ((c.length : Int) > 0)) (some (h == g)) (some false)).bind fun j=>(cond j ((q6p d c).bind fun k=>some k) (some false)).bind fun l=>cond l ((loop (q6f b) (f,a)).bind fun m=>some (d,f,b,m)) ((loop (q6g c g b a) (0,a)).bind fun n=>some n)
noncomputable def Zx (b : List qi) (a : Int × List Int) : Option ((Int × List Int) ⊕ (List Int)):=
  cond (decide (a.1 < (b.length : Int))) ((idx b a.1).bind fun c=>(app 8 a.2 [c.X0,c.X1]).bind fun d=>some (.inl (w64 (a.1 + 1),d))) (some (.inr a.2))
noncomputable def Uc (c : List qi) (d : Int) (a : Int × List qj) : Option ((Int × List qj) ⊕ (List qj)):=
  cond (decide (a.1 < (c.length : Int))) (((idx c a.1).bind fun b=>(cond (decide (b.X0≤d)) (some (decide (d < b.X1))) (some false)).bind fun f=>cond f ((app 16 a.2 [({Lo:=b.Y0,Hi:=b.Y1} : qj)]).bind fun g=>some g) (some a.2)).bind fun h=>some (.inl (w64 (a.1 + 1),h))) (some (.inr a.2))
noncomputable def q30 (d : List Int) (g : List qi) (a : Int × List qj × Int × Int × List qi) : Option ((Int × List qj × Int × Int × List qi) ⊕ (List qj × Int × Int × List qi)):=
  cond (decide (a.1 < (d.length : Int))) ((idx d (w64 (a.1 - 1))).bind fun f=>(idx d a.1).bind fun h=>((idx [g] 0).bind fun j=>(loop (Uc j f) (0,[])).bind fun k=>some k).bind fun l=>((q7r l).bind fun m=>(q6e a.2.2.2.2 a.2.1 a.2.2.1 a.2.2.2.1 f h m.1).bind fun b=>some (b.1,b.2.1,b.2.2.1,b.2.2.2)).bind fun c=>some (.inl (w64 (a.1 + 1),c.1,c.2.1,c.2.2.1,c.2.2.2))) (some (.inr (a.2.1,a.2.2.1,a.2.2.2.1,a.2.2.2.2)))
noncomputable def q6h (d : List qi) : Option (List qi × Int):=
  (((idx [d] 0).bind fun j=>(loop (Zx j) (0,[])).bind fun b=>some b).bind fun f=>(U2 f).bind fun c=>(K2 c.length f.length).bind fun _=>(Uy c).bind fun a=>(K2 a.2.length c.length).bind fun _=>(q14 a.2.length a.1).bind fun _=>some ((a.2.drop a.1.1).take a.1.2)).bind fun k=>((loop (q30 k d) (1,[],0,0,[])).bind fun b=>some b).bind fun g=>(cond (decide ((g.2.2.2.length : Int) > 400)) (some (4,[])) (some (0,g.2.2.2))).bind fun h=>some (h.2,h.1)
noncomputable def q1s (a : List qi) : Option (List qi × Int):=
  cond (decide ((a.length : Int) > 400)) (some ([],4)) ((q9k a (fun c=>q2y c)).bind fun d=>cond d (some ([],8)) ((q6h a).bind fun b=>some (b.1,b.2)))
noncomputable def qd6 (d : List qi) (f : List qi) (a : Int) : Option ((Int) ⊕ ((Unit) ⊕ (Bool))):=
  cond (decide (a < (d.length : Int))) ((idx d a).bind fun b=>(idx f a).bind fun c=>cond (!((b.X0 == c.X0) && ((b.Y0 == c.Y0) && ((b.X1 == c.X1) && ((b.Y1 == c.Y1) && true))))) (some (.inr (.inr false))) (some (.inl (w64 (a + 1))))) (some (.inr (.inl ())))
noncomputable def q6o (a : List qi) (b : List qi) : Option Bool:=
  cond ((a.length : Int) != (b.length : Int)) (some false) ((loop (qd6 a b) 0 : Option ((Unit) ⊕ (Bool))).bind fun c=>(match c with | .inl _=>some true | .inr d=>some d))
noncomputable def q7o (c : Int) (a : Int × List qg) : Option ((Int × List qg) ⊕ (List qg)):=
  cond (decide (a.1 < (a.2.length : Int))) ((idx a.2 a.1).bind fun b=>some (.inl (w64 (a.1 + 1),a.2.set a.1.toNat ({Lo:=b.Lo,Hi:=({X:=b.Hi.X,Y:=b.Hi.Y,Z:=c} : ql)} : qg)))) (some (.inr a.2))
noncomputable def q7p (c : List qi) (f : Int) (d : Int) (g : List qg) (a : Int × List qg) : Option ((Int × List qg) ⊕ (List qi × Int × Int × List qg)):=
  cond (decide (a.1 < (c.length : Int))) ((idx c a.1).bind fun b=>(app 48 a.2 [({Lo:=({X:=b.X0,Y:=b.Y0,Z:=f} : ql),Hi:=({X:=b.X1,Y:=b.Y1,Z:=d} : ql)} : qg)]).bind fun h=>some (.inl (w64 (a.1 + 1),h))) (some (.inr (c,(g.length : Int),d,a.2)))
noncomputable def q7n (a : List qg) (d : List qi) (f : Int) (h : Int) (g : Int) (b : Int) (c : List qi) : Option (List qi × Int × Int × List qg):=
  (cond (decide ((c.length : Int) > 0)) (some (h == g)) (some false)).bind fun j=>(cond j ((q6o d c).bind fun k=>some k) (some false)).bind fun l=>cond l ((loop (q7o b) (f,a)).bind fun m=>some (d,f,b,m)) ((loop (q7p c g b a) (0,a)).bind fun n=>some n)
noncomputable def q1y (b : List qg) (a : Int × List Int) : Option ((Int × List Int) ⊕ (List Int)):=
  cond (decide (a.1 < (b.length : Int))) ((idx b a.1).bind fun c=>(app 8 a.2 [c.Lo.Z,c.Hi.Z]).bind fun d=>some (.inl (w64 (a.1 + 1),d))) (some (.inr a.2))
noncomputable def q1z (c : List qg) (d : Int) (a : Int × List qi) : Option ((Int × List qi) ⊕ (List qi)):=
  cond (decide (a.1 < (c.length : Int))) (((idx c a.1).bind fun b=>(cond (decide (b.Lo.Z≤d)) (some (decide (d < b.Hi.Z))) (some false)).bind fun f=>cond f ((app 32 a.2 [({X0:=b.Lo.X,Y0:=b.Lo.Y,X1:=b.Hi.X,Y1:=b.Hi.Y} : qi)]).bind fun g=>some g) (some a.2)).bind fun h=>some (.inl (w64 (a.1 + 1),h))) (some (.inr a.2))
noncomputable def q4y (d : List Int) (h : List qg) (a : Int × List qi × Int × Int × List qg) : Option ((Int × List qi × Int × Int × List qg) ⊕ ((List qi × Int × Int × List qg) ⊕ (List qg × Int))):=
  cond (decide (a.1 < (d.length : Int))) ((idx d (w64 (a.1 - 1))).bind fun g=>(idx d a.1).bind fun j=>((idx [h] 0).bind fun k=>(loop (q1z k g) (0,[])).bind fun l=>some l).bind fun m=>((q1s m).bind fun f=>cond (f.2 != 0) (some (.inr ([],f.2))) ((q7n a.2.2.2.2 a.2.1 a.2.2.1 a.2.2.2.1 g j f.1).bind fun b=>some (.inl (b.1,b.2.1,b.2.2.1,b.2.2.2))) : Option ((List qi × Int × Int × List qg) ⊕ (List qg × Int))).bind fun n=>(match n with | .inl c=>some (.inl (w64 (a.1 + 1),c.1,c.2.1,c.2.2.1,c.2.2.2)) | .inr o=>some (.inr (.inr o)))) (some (.inr (.inl (a.2.1,a.2.2.1,a.2.2.2.1,a.2.2.2.2))))
noncomputable def qak (f : List qg) : Option (List qg × Int):=
  (((idx [f] 0).bind fun j=>(loop (q1y j) (0,[])).bind fun b=>some b).bind fun g=>(U2 g).bind fun c=>(K2 c.length g.length).bind fun _=>(Uy c).bind fun a=>(K2 a.2.length c.length).bind fun _=>(q14 a.2.length a.1).bind fun _=>some ((a.2.drop a.1.1).take a.1.2)).bind fun k=>((loop (q4y k f) (1,[],0,0,[]) : Option ((List qi × Int × Int × List qg) ⊕ (List qg × Int))).bind fun l=>(match l with | .inl b=>some (.inl b) | .inr d=>some (.inr d)) : Option ((List qi × Int × Int × List qg) ⊕ (List qg × Int))).bind fun m=>(match m with | .inl h=>cond (decide ((h.2.2.2.length : Int) > 400)) (some ([],4)) (some (h.2.2.2,0)) | .inr d=>some d)
noncomputable def qgy (d : List qg) (f : List qg) (c : Int) : Option ((Int) ⊕ ((Unit) ⊕ (Bool))):=
  cond (decide (c < (d.length : Int))) ((idx d c).bind fun a=>(idx f c).bind fun b=>cond (!((a.Lo.X == b.Lo.X) && ((a.Lo.Y == b.Lo.Y) && ((a.Lo.Z == b.Lo.Z) && ((a.Hi.X == b.Hi.X) && ((a.Hi.Y == b.Hi.Y) && ((a.Hi.Z == b.Hi.Z) && true))))))) (some (.inr (.inr false))) (some (.inl (w64 (c + 1))))) (some (.inr (.inl ())))
noncomputable def qd7 (a : List qg) (b : List qg) : Option Bool:=
  cond ((a.length : Int) != (b.length : Int)) (some false) ((loop (qgy a b) 0 : Option ((Unit) ⊕ (Bool))).bind fun c=>(match c with | .inl _=>some true | .inr d=>some d))
noncomputable def q37 (a : List qg) : Option Int:=
  cond (decide ((a.length : Int) > 400)) (some 4) ((Ud a (fun c=>q38 c)).bind fun d=>cond d (some 8) ((qak a).bind fun b=>(cond (b.2 != 0) (some true) ((qd7 b.1 a).bind fun f=>some (!f))).bind fun g=>cond g (some 8) (some 0)))
noncomputable def q3h (a : ql) (b : Int) : Option Bool:=
  (cond (decide ((min (min a.X a.Y) a.Z) ≥ (w64 (0 - b)))) (some (decide ((max (max a.X a.Y) a.Z)≤b))) (some false)).bind fun c=>some c
noncomputable def q7z (a : qg) : Option Bool:=
  (q3h a.Lo 30).bind fun b=>(cond (!b) (some true) ((q3h a.Hi 30).bind fun c=>some (!c))).bind fun d=>some d
noncomputable def q28 (b : List qg) (a : ql) : Option Int:=
  (q37 b).bind fun c=>cond (c != 0) (some c) ((Ud b (fun d=>q7z d)).bind fun f=>cond f (some 16) ((q3h a 8).bind fun g=>(cond (!g) (some true) (some ((a.X == 0) && ((a.Y == 0) && ((a.Z == 0) && true))))).bind fun h=>cond h (some 2) (some 0)))
noncomputable def q84 : Option (ql × ql × ql × ql × ql × ql):=
  some (({X:=1,Y:=0,Z:=0} : ql),({X:=(-1),Y:=0,Z:=0} : ql),({X:=0,Y:=1,Z:=0} : ql),({X:=0,Y:=(-1),Z:=0} : ql),({X:=0,Y:=0,Z:=1} : ql),({X:=0,Y:=0,Z:=(-1)} : ql))
def K4 (x : ql) : List DV:=[.int .i64 x.X,.int .i64 x.Y,.int .i64 x.Z]
noncomputable def q4v (a : qg) (b : ql) : Option Bool:=
  (cond (decide (a.Lo.X≤b.X)) (some (decide (b.X < a.Hi.X))) (some false)).bind fun c=>(cond c (some (decide (a.Lo.Y≤b.Y))) (some false)).bind fun d=>(cond d (some (decide (b.Y < a.Hi.Y))) (some false)).bind fun f=>(cond f (some (decide (a.Lo.Z≤b.Z))) (some false)).bind fun g=>(cond g (some (decide (b.Z < a.Hi.Z))) (some false)).bind fun h=>some h
noncomputable def q4u (a : List qg) (b : ql) : Option Bool:=
  (Ud a (fun c=>q4v c b)).bind fun d=>some d
noncomputable def q13 (a : ql) (b : ql) : Option ql:=
  some ({X:=w64 (a.X + b.X),Y:=w64 (a.Y + b.Y),Z:=w64 (a.Z + b.Z)} : ql)
structure Yd where
  p_ : ql
  d_ : ql
  deriving DecidableEq
structure Kx where
  num_ : Int
  den_ : Int
  deriving DecidableEq
noncomputable def q11 (a : ql) : Option (Int × Int × Int):=
  some (a.X,a.Y,a.Z)
noncomputable def q3j (a : Kx) (b : Kx) : Option Bool:=
  some (decide ((w64 (a.num_ * b.den_)) < (w64 (b.num_ * a.den_))))
noncomputable def q12 (h : (Int × Int × Int)) (j : (Int × Int × Int)) (c : (Int × Int × Int)) (k : (Int × Int × Int)) (a : Bool × Int × Int × Int × Int × Int) : Option ((Bool × Int × Int × Int × Int × Int) ⊕ ((Int × Int × Int × Int) ⊕ (Kx × Bool))):=
  cond (decide (a.2.1 < 3)) (((idxA 3 [h.1,h.2.1,h.2.2] a.2.1).bind fun f=>(idxA 3 [j.1,j.2.1,j.2.2] a.2.1).bind fun l=>(idxA 3 [c.1,c.2.1,c.2.2] a.2.1).bind fun m=>(idxA 3 [k.1,k.2.1,k.2.2] a.2.1).bind fun n=>(idxA 3 [c.1,c.2.1,c.2.2] a.2.1).bind fun o=>cond (f == 0) ((cond (decide ((w64 ((w64 (2 * l)) - m)) ≥ 0)) (some true) (some (decide ((w64 ((w64 (2 * n)) - o))≤0)))).bind fun p=>cond p (some (.inr (({num_:=0,den_:=0} : Kx),false))) (some (.inl (a.1,a.2.2.1,a.2.2.2.1,a.2.2.2.2.1,a.2.2.2.2.2)))) ((cond (decide (f < 0)) (some (w64 (0 - f),w64 (0 - (w64 ((w64 (2 * n)) - o))),w64 (0 - (w64 ((w64 (2 * l)) - m))))) (some (f,w64 ((w64 (2 * l)) - m),w64 ((w64 (2 * n)) - o)))).bind fun b=>(q3j ({num_:=a.2.2.1,den_:=a.2.2.2.1} : Kx) ({num_:=b.2.1,den_:=w64 (2 * b.1)} : Kx)).bind fun q=>(cond q (some (b.2.1,w64 (2 * b.1))) (some (a.2.2.1,a.2.2.2.1))).bind fun g=>(cond a.1 (some true) ((q3j ({num_:=b.2.2,den_:=w64 (2 * b.1)} : Kx) ({num_:=a.2.2.2.2.1,den_:=a.2.2.2.2.2} : Kx)).bind fun r=>some r)).bind fun s=>cond s (some (.inl (false,g.1,g.2,b.2.2,w64 (2 * b.1)))) (some (.inl (a.1,g.1,g.2,a.2.2.2.2.1,a.2.2.2.2.2)))) : Option ((Bool × Int × Int × Int × Int) ⊕ (Kx × Bool))).bind fun t=>(match t with | .inl d=>some (.inl (d.1,w64 (a.2.1 + 1),d.2.1,d.2.2.1,d.2.2.2.1,d.2.2.2.2)) | .inr u=>some (.inr (.inr u)))) (some (.inr (.inl (a.2.2.1,a.2.2.2.1,a.2.2.2.2.1,a.2.2.2.2.2))))
noncomputable def q83 (b : Yd) (c : qg) : Option (Kx × Bool):=
  (q11 b.p_).bind fun d=>(q11 c.Lo).bind fun f=>(q11 c.Hi).bind fun g=>(q11 b.d_).bind fun h=>(loop (q12 h f d g) (true,0,0,1,0,0) : Option ((Int × Int × Int × Int) ⊕ (Kx × Bool))).bind fun j=>(match j with | .inl a=>(q3j ({num_:=a.1,den_:=a.2.1} : Kx) ({num_:=a.2.2.1,den_:=a.2.2.2} : Kx)).bind fun k=>some (({num_:=a.1,den_:=a.2.1} : Kx),k) | .inr l=>some l)
noncomputable def q82 (a : qg) (b : Yd) : Option Bool:=
  (q83 b a).bind fun c=>some c.2
noncomputable def q3i (a : Yd) (b : List qg) : Option Bool:=
  (Ud b (fun c=>q82 c a)).bind fun d=>some (!d)
noncomputable def q80 (d : List qg) (c : ql) (a : ql) (b : ql) : Option Bool:=
  cond (decide ((w64 ((w64 ((w64 (a.X * b.X)) + (w64 (a.Y * b.Y)))) + (w64 (a.Z * b.Z))))≤0)) (some false) ((q13 c c).bind fun f=>(q13 ({X:=1,Y:=1,Z:=1} : ql) a).bind fun g=>(q13 f g).bind fun h=>(q3i ({p_:=h,d_:=b} : Yd) d).bind fun j=>some j)
noncomputable def q3d (b : List qg) (c : ql) (d : Int) (f : ql) : Option (Bool × Int):=
  (q28 b f).bind fun g=>cond (g != 0) (some (false,g)) (cond (decide (d > 5)) (some (false,2)) (q84.bind fun a=>(idxA 6 [a.1,a.2.1,a.2.2.1,a.2.2.2.1,a.2.2.2.2.1,a.2.2.2.2.2] d).bind fun h=>(q4u b c).bind fun j=>(cond (!j) (some true) ((q13 c h).bind fun k=>(q4u b k).bind fun l=>some l)).bind fun m=>cond m (some (false,6)) ((q80 b c h f).bind fun n=>some (n,0))))
noncomputable def q61 (a : ql) (b : Int) : Option Bool:=
  (cond (decide (a.X ≥ b)) (some (decide (a.Y ≥ b))) (some false)).bind fun c=>(cond c (some (decide (a.Z ≥ b))) (some false)).bind fun d=>(cond d (some (decide (a.X≤1000000))) (some false)).bind fun f=>(cond f (some (decide (a.Y≤1000000))) (some false)).bind fun g=>(cond g (some (decide (a.Z≤1000000))) (some false)).bind fun h=>some h
noncomputable def q97 (a : qg) : Option Bool:=
  (q61 a.Lo (-1000000)).bind fun b=>(cond b ((q61 a.Hi (-1000000)).bind fun c=>some c) (some false)).bind fun d=>(cond d (some (decide (a.Lo.X < a.Hi.X))) (some false)).bind fun f=>(cond f (some (decide (a.Lo.Y < a.Hi.Y))) (some false)).bind fun g=>(cond g (some (decide (a.Lo.Z < a.Hi.Z))) (some false)).bind fun h=>some h
noncomputable def q48 (b : Int × List Int) (c : List Int) (a : Int) : Option ((Int) ⊕ (Int)):=
  (cond (decide (a > 0)) ((idx b.2 (w64 (a - 1))).bind fun d=>(idx c b.1).bind fun f=>some (decide (d > f))) (some false)).bind fun g=>cond g (some (.inl (w64 (a - 1)))) (some (.inr a))
noncomputable def q47 (d : List Int) (a : Int × List Int) : Option ((Int × List Int) ⊕ (List Int)):=
  cond (decide (a.1 < (d.length : Int))) (((loop (q48 a d) (a.2.length : Int)).bind fun c=>(cond (decide (c > 0)) ((idx a.2 (w64 (c - 1))).bind fun h=>(idx d a.1).bind fun j=>some (h == j)) (some false)).bind fun k=>cond k (some a.2) ((app 8 a.2 [0]).bind fun b=>(sub2 b.length (w64 (c + 1)) b.length).bind fun g=>(sub2 b.length c b.length).bind fun f=>(idx d a.1).bind fun l=>(idx (cpyw b g ((b.drop f.1).take f.2)) c).bind fun _=>some ((cpyw b g ((b.drop f.1).take f.2)).set c.toNat l))).bind fun m=>some (.inl (w64 (a.1 + 1),m))) (some (.inr a.2))
noncomputable def U0 (a : List Int) : Option (List Int):=
  (loop (q47 a) (0,[])).bind fun b=>some b
noncomputable def q4f (b : List qg) (a : Int × List Int) : Option ((Int × List Int) ⊕ (List Int)):=
  cond (decide (a.1 < (b.length : Int))) ((idx b a.1).bind fun c=>(idx b a.1).bind fun d=>(app 8 a.2 [c.Lo.Z,d.Hi.Z]).bind fun f=>some (.inl (w64 (a.1 + 1),f))) (some (.inr a.2))
noncomputable def q4g (b : List qg) (a : Int × List Int) : Option ((Int × List Int) ⊕ (List Int)):=
  cond (decide (a.1 < (b.length : Int))) ((idx b a.1).bind fun c=>(idx b a.1).bind fun d=>(app 8 a.2 [c.Lo.Z,d.Hi.Z]).bind fun f=>some (.inl (w64 (a.1 + 1),f))) (some (.inr a.2))
noncomputable def q96 (a : List qg) (b : List qg) : Option (List Int):=
  (loop (q4f a) (0,[])).bind fun c=>(loop (q4g b) (0,c)).bind fun d=>(U0 d).bind fun f=>some f
noncomputable def q62 (b : List qg) (c : Int) (a : Int × List qi) : Option ((Int × List qi) ⊕ (List qi)):=
  cond (decide (a.1 < (b.length : Int))) (((idx b a.1).bind fun d=>(cond (decide (d.Lo.Z≤c)) ((idx b a.1).bind fun f=>some (decide (c < f.Hi.Z))) (some false)).bind fun g=>cond g ((idx b a.1).bind fun h=>(idx b a.1).bind fun j=>(idx b a.1).bind fun k=>(idx b a.1).bind fun l=>(app 32 a.2 [({X0:=h.Lo.X,Y0:=j.Lo.Y,X1:=k.Hi.X,Y1:=l.Hi.Y} : qi)]).bind fun m=>some m) (some a.2)).bind fun n=>some (.inl (w64 (a.1 + 1),n))) (some (.inr a.2))
noncomputable def U1 (a : List qg) (b : Int) : Option (List qi):=
  (loop (q62 a b) (0,[])).bind fun c=>some c
noncomputable def q4b (b : List qi) (a : Int × List Int) : Option ((Int × List Int) ⊕ (List Int)):=
  cond (decide (a.1 < (b.length : Int))) ((idx b a.1).bind fun c=>(idx b a.1).bind fun d=>(app 8 a.2 [c.X0,d.X1]).bind fun f=>some (.inl (w64 (a.1 + 1),f))) (some (.inr a.2))
noncomputable def q4c (b : List qi) (a : Int × List Int) : Option ((Int × List Int) ⊕ (List Int)):=
  cond (decide (a.1 < (b.length : Int))) ((idx b a.1).bind fun c=>(idx b a.1).bind fun d=>(app 8 a.2 [c.X0,d.X1]).bind fun f=>some (.inl (w64 (a.1 + 1),f))) (some (.inr a.2))
noncomputable def q94 (a : List qi) (b : List qi) : Option (List Int):=
  (loop (q4b a) (0,[])).bind fun c=>(loop (q4c b) (0,c)).bind fun d=>(U0 d).bind fun f=>some f
noncomputable def q4d (b : List qi) (a : Int × List Int) : Option ((Int × List Int) ⊕ (List Int)):=
  cond (decide (a.1 < (b.length : Int))) ((idx b a.1).bind fun c=>(idx b a.1).bind fun d=>(app 8 a.2 [c.Y0,d.Y1]).bind fun f=>some (.inl (w64 (a.1 + 1),f))) (some (.inr a.2))
noncomputable def q4e (b : List qi) (a : Int × List Int) : Option ((Int × List Int) ⊕ (List Int)):=
  cond (decide (a.1 < (b.length : Int))) ((idx b a.1).bind fun c=>(idx b a.1).bind fun d=>(app 8 a.2 [c.Y0,d.Y1]).bind fun f=>some (.inl (w64 (a.1 + 1),f))) (some (.inr a.2))
noncomputable def q95 (a : List qi) (b : List qi) : Option (List Int):=
  (loop (q4d a) (0,[])).bind fun c=>(loop (q4e b) (0,c)).bind fun d=>(U0 d).bind fun f=>some f
noncomputable def q2u (b : List qi) (c : Int) (d : Int) (a : Int) : Option ((Int) ⊕ ((Unit) ⊕ (Bool))):=
  cond (decide (a < (b.length : Int))) ((idx b a).bind fun f=>(cond (decide (f.X0≤c)) ((idx b a).bind fun g=>some (decide (c < g.X1))) (some false)).bind fun h=>(cond h ((idx b a).bind fun j=>some (decide (j.Y0≤d))) (some false)).bind fun k=>(cond k ((idx b a).bind fun l=>some (decide (d < l.Y1))) (some false)).bind fun m=>cond m (some (.inr (.inr true))) (some (.inl (w64 (a + 1))))) (some (.inr (.inl ())))
noncomputable def q5y (a : List qi) (b : Int) (c : Int) : Option Bool:=
  (loop (q2u a b c) 0 : Option ((Unit) ⊕ (Bool))).bind fun d=>(match d with | .inl _=>some false | .inr f=>some f)
noncomputable def q5w (c : Int) (a : Bool) (b : Bool) : Option Bool:=
  cond (c == 1) ((cond a (some b) (some false)).bind fun d=>some d) (cond (c == 2) ((cond a (some true) (some b)).bind fun f=>some f) ((cond a (some (!b)) (some false)).bind fun g=>some g))
noncomputable def q46 (b : List Int) (c : List Bool) (a : Int × List qj) : Option ((Int × List qj) ⊕ (List qj)):=
  cond (decide ((w64 (a.1 + 1)) < (b.length : Int))) (((idx c a.1).bind fun d=>cond (!d) (some a.2) ((cond (decide ((a.2.length : Int) > 0)) ((idx a.2 (w64 ((a.2.length : Int) - 1))).bind fun f=>(idx b a.1).bind fun g=>some (f.Hi == g)) (some false)).bind fun h=>cond h ((idx b (w64 (a.1 + 1))).bind fun j=>(idx a.2 (w64 ((a.2.length : Int) - 1))).bind fun k=>some (a.2.set (w64 ((a.2.length : Int) - 1)).toNat ({Lo:=k.Lo,Hi:=j} : qj))) ((idx b a.1).bind fun l=>(idx b (w64 (a.1 + 1))).bind fun m=>(app 16 a.2 [({Lo:=l,Hi:=m} : qj)]).bind fun n=>some n))).bind fun o=>some (.inl (w64 (a.1 + 1),o))) (some (.inr a.2))
noncomputable def q45 (a : List Int) (b : List Bool) : Option (List qj):=
  (loop (q46 a b) (0,[])).bind fun c=>some c
noncomputable def qcl (b : List qj) (f : List qj) (a : Int) : Option ((Int) ⊕ ((Unit) ⊕ (Bool))):=
  cond (decide (a < (b.length : Int))) ((idx b a).bind fun c=>(idx f a).bind fun d=>cond (!((c.Lo == d.Lo) && ((c.Hi == d.Hi) && true))) (some (.inr (.inr false))) (some (.inl (w64 (a + 1))))) (some (.inr (.inl ())))
noncomputable def q5x (a : List qj) (b : List qj) : Option Bool:=
  cond ((a.length : Int) != (b.length : Int)) (some false) ((loop (qcl a b) 0 : Option ((Unit) ⊕ (Bool))).bind fun c=>(match c with | .inl _=>some true | .inr d=>some d))
noncomputable def q49 (b : List Int) (c : List Int) (d : List qj × Int × Int × List qi) (f : List qi) (g : List qi) (h : Int) (a : Int × List Bool) : Option ((Int × List Bool) ⊕ (List Bool)):=
  cond (decide (a.1 < (b.length : Int))) ((idx c d.2.2.1).bind fun j=>(idx b a.1).bind fun k=>(q5y f j k).bind fun l=>(idx c d.2.2.1).bind fun m=>(idx b a.1).bind fun n=>(q5y g m n).bind fun o=>(q5w h l o).bind fun p=>(app 1 a.2 [p]).bind fun q=>some (.inl (w64 (a.1 + 1),q))) (some (.inr a.2))
noncomputable def q4a (c : List Int) (d : List qj × Int × Int × List qi) (a : Int × List qi) : Option ((Int × List qi) ⊕ (List qi)):=
  cond (decide (a.1 < (a.2.length : Int))) ((idx c (w64 (d.2.2.1 + 1))).bind fun f=>(idx a.2 a.1).bind fun b=>some (.inl (w64 (a.1 + 1),a.2.set a.1.toNat ({X0:=b.X0,Y0:=b.Y0,X1:=f,Y1:=b.Y1} : qi)))) (some (.inr a.2))
noncomputable def q5z (b : List qj) (d : List Int) (c : List qj × Int × Int × List qi) (a : Int × List qi) : Option ((Int × List qi) ⊕ (List qj × Int × List qi)):=
  cond (decide (a.1 < (b.length : Int))) ((idx d c.2.2.1).bind fun f=>(idx b a.1).bind fun g=>(idx d (w64 (c.2.2.1 + 1))).bind fun h=>(idx b a.1).bind fun j=>(app 32 a.2 [({X0:=f,Y0:=g.Lo,X1:=h,Y1:=j.Hi} : qi)]).bind fun k=>some (.inl (w64 (a.1 + 1),k))) (some (.inr (b,(c.2.2.2.length : Int),a.2)))
noncomputable def q2v (b : List Int) (d : List Int) (g : List qi) (h : List qi) (j : Int) (a : List qj × Int × Int × List qi) : Option ((List qj × Int × Int × List qi) ⊕ (List qi)):=
  cond (decide ((w64 (a.2.2.1 + 1)) < (b.length : Int))) (((loop (q49 d b a g h j) (0,[])).bind fun k=>(q45 d k).bind fun f=>(cond (decide (a.2.2.1 > 0)) ((q5x f a.1).bind fun l=>some l) (some false)).bind fun m=>cond m ((loop (q4a b a) (a.2.1,a.2.2.2)).bind fun n=>some (a.1,a.2.1,n)) ((loop (q5z f b a) (0,a.2.2.2)).bind fun o=>some o)).bind fun c=>some (.inl (c.1,c.2.1,w64 (a.2.2.1 + 1),c.2.2))) (some (.inr a.2.2.2))
noncomputable def Jf (c : Int) (a : List qi) (b : List qi) : Option (List qi):=
  (q94 a b).bind fun d=>(q95 a b).bind fun f=>(loop (q2v d f a b c) ([],0,0,[])).bind fun g=>some g
noncomputable def qcm (d : List qi) (f : List qi) (a : Int) : Option ((Int) ⊕ ((Unit) ⊕ (Bool))):=
  cond (decide (a < (d.length : Int))) ((idx d a).bind fun b=>(idx f a).bind fun c=>cond (!((b.X0 == c.X0) && ((b.Y0 == c.Y0) && ((b.X1 == c.X1) && ((b.Y1 == c.Y1) && true))))) (some (.inr (.inr false))) (some (.inl (w64 (a + 1))))) (some (.inr (.inl ())))
noncomputable def q2w (a : List qi) (b : List qi) : Option Bool:=
  cond ((a.length : Int) != (b.length : Int)) (some false) ((loop (qcm a b) 0 : Option ((Unit) ⊕ (Bool))).bind fun c=>(match c with | .inl _=>some true | .inr d=>some d))
noncomputable def q4i (c : List Int) (d : List qi × Int × Int × List qg) (a : Int × List qg) : Option ((Int × List qg) ⊕ (List qg)):=
  cond (decide (a.1 < (a.2.length : Int))) ((idx c (w64 (d.2.2.1 + 1))).bind fun f=>(idx a.2 a.1).bind fun b=>some (.inl (w64 (a.1 + 1),a.2.set a.1.toNat ({Lo:=b.Lo,Hi:=({X:=b.Hi.X,Y:=b.Hi.Y,Z:=f} : ql)} : qg)))) (some (.inr a.2))
noncomputable def q65 (b : List qi) (d : List Int) (c : List qi × Int × Int × List qg) (a : Int × List qg) : Option ((Int × List qg) ⊕ (List qi × Int × List qg)):=
  cond (decide (a.1 < (b.length : Int))) ((idx b a.1).bind fun f=>(idx b a.1).bind fun g=>(idx d c.2.2.1).bind fun h=>(idx b a.1).bind fun j=>(idx b a.1).bind fun k=>(idx d (w64 (c.2.2.1 + 1))).bind fun l=>(app 48 a.2 [({Lo:=({X:=f.X0,Y:=g.Y0,Z:=h} : ql),Hi:=({X:=j.X1,Y:=k.Y1,Z:=l} : ql)} : qg)]).bind fun m=>some (.inl (w64 (a.1 + 1),m))) (some (.inr (b,(c.2.2.2.length : Int),a.2)))
noncomputable def q1r (b : List Int) (f : List qg) (g : List qg) (h : Int) (a : List qi × Int × Int × List qg) : Option ((List qi × Int × Int × List qg) ⊕ ((List qg) ⊕ (List qg × Bool))):=
  cond (decide ((w64 (a.2.2.1 + 1)) < (b.length : Int))) (((idx b a.2.2.1).bind fun j=>(U1 f j).bind fun k=>(idx b a.2.2.1).bind fun l=>(U1 g l).bind fun m=>(Jf h k m).bind fun c=>(cond (decide ((c.length : Int) > 400)) (some true) ((idx b a.2.2.1).bind fun n=>(U1 f n).bind fun o=>(Jf 2 o []).bind fun p=>some (decide ((p.length : Int) > 400)))).bind fun q=>(cond q (some true) ((idx b a.2.2.1).bind fun r=>(U1 g r).bind fun s=>(Jf 2 s []).bind fun t=>some (decide ((t.length : Int) > 400)))).bind fun u=>cond u (some (.inr ([],false))) ((cond (decide (a.2.2.1 > 0)) ((q2w c a.1).bind fun v=>some v) (some false)).bind fun x=>cond x ((loop (q4i b a) (a.2.1,a.2.2.2)).bind fun y=>some (.inl (a.1,a.2.1,y))) ((loop (q65 c b a) (0,a.2.2.2)).bind fun z=>some (.inl z))) : Option ((List qi × Int × List qg) ⊕ (List qg × Bool))).bind fun aa=>(match aa with | .inl d=>some (.inl (d.1,d.2.1,w64 (a.2.2.1 + 1),d.2.2)) | .inr x1=>some (.inr (.inr x1)))) (some (.inr (.inl a.2.2.2)))
noncomputable def q4h (d : Int) (a : List qg) (b : List qg) : Option (List qg × Bool):=
  (q96 a b).bind fun f=>(loop (q1r f a b d) ([],0,0,[]) : Option ((List qg) ⊕ (List qg × Bool))).bind fun g=>(match g with | .inl c=>some (c,decide ((c.length : Int)≤400)) | .inr h=>some h)
noncomputable def qcr (d : List qg) (f : List qg) (c : Int) : Option ((Int) ⊕ ((Unit) ⊕ (Bool))):=
  cond (decide (c < (d.length : Int))) ((idx d c).bind fun a=>(idx f c).bind fun b=>cond (!((a.Lo.X == b.Lo.X) && ((a.Lo.Y == b.Lo.Y) && ((a.Lo.Z == b.Lo.Z) && ((a.Hi.X == b.Hi.X) && ((a.Hi.Y == b.Hi.Y) && ((a.Hi.Z == b.Hi.Z) && true))))))) (some (.inr (.inr false))) (some (.inl (w64 (c + 1))))) (some (.inr (.inl ())))
noncomputable def qcq (a : List qg) (b : List qg) : Option Bool:=
  cond ((a.length : Int) != (b.length : Int)) (some false) ((loop (qcr a b) 0 : Option ((Unit) ⊕ (Bool))).bind fun c=>(match c with | .inl _=>some true | .inr d=>some d))
noncomputable def q64 (b : List qg) (a : Int) : Option ((Int) ⊕ ((Unit) ⊕ (Int))):=
  cond (decide (a < (b.length : Int))) ((idx b a).bind fun c=>(q97 c).bind fun d=>cond (!d) (some (.inr (.inr 8))) (some (.inl (w64 (a + 1))))) (some (.inr (.inl ())))
noncomputable def q63 (a : List qg) : Option Int:=
  cond (decide ((a.length : Int) > 400)) (some 4) ((loop (q64 a) 0 : Option ((Unit) ⊕ (Int))).bind fun c=>(match c with | .inl _=>(q4h 2 a []).bind fun b=>(cond (!b.2) (some true) ((qcq b.1 a).bind fun d=>some (!d))).bind fun f=>cond f (some 8) (some 0) | .inr g=>some g))
noncomputable def q66 (b : List qg) (a : Int) : Option ((Int) ⊕ ((Unit) ⊕ (Int))):=
  cond (decide (a < (b.length : Int))) ((idx b a).bind fun c=>(Ux c.Lo 30).bind fun d=>(cond (!d) (some true) ((idx b a).bind fun f=>(Ux f.Hi 30).bind fun g=>some (!g))).bind fun h=>cond h (some (.inr (.inr 16))) (some (.inl (w64 (a + 1))))) (some (.inr (.inl ())))
noncomputable def q98 (b : List qg) (a : ql) : Option Int:=
  (q63 b).bind fun c=>cond (c != 0) ((q63 b).bind fun d=>some d) ((loop (q66 b) 0 : Option ((Unit) ⊕ (Int))).bind fun f=>(match f with | .inl _=>(Ux a 8).bind fun g=>(cond (!g) (some true) ((cond (a.X == 0) (some (a.Y == 0)) (some false)).bind fun h=>(cond h (some (a.Z == 0)) (some false)).bind fun j=>some j)).bind fun k=>cond k (some 2) (some 0) | .inr l=>some l))
noncomputable def qml (a : ql) (b : ql) : Option ql:=
  some ({X:=w64 (a.X + b.X),Y:=w64 (a.Y + b.Y),Z:=w64 (a.Z + b.Z)} : ql)
structure Y3 where
  Num : Int
  Den : Int
  deriving DecidableEq
def qbq (x : Y3) : List DV:=[.int .i64 x.Num,.int .i64 x.Den]
noncomputable def qcn (a : ql) (b : Int) : Option Int:=
  cond (b == 0) (some a.X) (cond (b == 1) (some a.Y) (some a.Z))
noncomputable def q8z (a : Y3) (b : Y3) : Option Bool:=
  some (decide ((w64 (a.Num * b.Den)) < (w64 (b.Num * a.Den))))
noncomputable def q26 (b : (ql × ql × ql × ql × ql × ql)) (c : Int × Int × Int) (d : Int × Int × Int) (f : Int × Int × Int) (g : List qg) (k : ql) (a : Int × Int × Int) : Option ((Int × Int × Int) ⊕ (Int × Int)):=
  cond (decide (a.1 < 6)) (((idxA 6 [b.1,b.2.1,b.2.2.1,b.2.2.2.1,b.2.2.2.2.1,b.2.2.2.2.2] a.1).bind fun h=>(q13 ({X:=c.1,Y:=d.1,Z:=f.1} : ql) h).bind fun l=>(q4u g l).bind fun m=>cond m (some (a.2.1,a.2.2)) ((q80 g ({X:=c.1,Y:=d.1,Z:=f.1} : ql) h k).bind fun n=>cond n (some (w64 (a.2.1 + 1),a.2.2)) (some (a.2.1,w64 (a.2.2 + 1))))).bind fun j=>some (.inl (w64 (a.1 + 1),j.1,j.2))) (some (.inr (a.2.1,a.2.2)))
noncomputable def q25 (c : qg) (d : Int × Int × Int) (f : Int × Int × Int) (g : List qg) (h : ql) (a : Int × Int × Int) : Option ((Int × Int × Int) ⊕ (Int × Int)):=
  cond (decide (a.1 < c.Hi.Z)) ((q84.bind fun j=>(loop (q26 j d f a g h) (0,a.2.1,a.2.2)).bind fun k=>some k).bind fun b=>some (.inl (w64 (a.1 + 1),b.1,b.2))) (some (.inr (a.2.1,a.2.2)))
noncomputable def q24 (b : qg) (d : Int × Int × Int) (f : List qg) (g : ql) (a : Int × Int × Int) : Option ((Int × Int × Int) ⊕ (Int × Int)):=
  cond (decide (a.1 < b.Hi.Y)) (((loop (q25 b d a f g) (b.Lo.Z,a.2.1,a.2.2)).bind fun h=>some h).bind fun c=>some (.inl (w64 (a.1 + 1),c.1,c.2))) (some (.inr (a.2.1,a.2.2)))
noncomputable def q23 (b : qg) (d : List qg) (f : ql) (a : Int × Int × Int) : Option ((Int × Int × Int) ⊕ (Int × Int)):=
  cond (decide (a.1 < b.Hi.X)) (((loop (q24 b a d f) (b.Lo.Y,a.2.1,a.2.2)).bind fun g=>some g).bind fun c=>some (.inl (w64 (a.1 + 1),c.1,c.2))) (some (.inr (a.2.1,a.2.2)))
noncomputable def q22 (b : List qg) (f : ql) (a : Int × Int × Int) : Option ((Int × Int × Int) ⊕ (Int × Int)):=
  cond (decide (a.1 < (b.length : Int))) (((idx b a.1).bind fun c=>(loop (q23 c b f) (c.Lo.X,a.2.1,a.2.2)).bind fun g=>some g).bind fun d=>some (.inl (w64 (a.1 + 1),d.1,d.2))) (some (.inr (a.2.1,a.2.2)))
noncomputable def q7v (a : List qg) (b : ql) : Option (Int × Int × Int):=
  (q28 a b).bind fun c=>cond (c != 0) (some (0,0,c)) ((some ()).bind fun _=>((loop (q22 a b) (0,0,0)).bind fun f=>some f).bind fun d=>some (d.1,d.2,0))
noncomputable def q4w (c : List qg) (a : Int × Int × Int × Int × Int × Int × Int) : Option ((Int × Int × Int × Int × Int × Int × Int) ⊕ (Int × Int × Int × Int × Int × Int)):=
  cond (decide (a.1 < (c.length : Int))) ((idx c a.1).bind fun b=>some (.inl (w64 (a.1 + 1),min a.2.1 b.Lo.X,min a.2.2.1 b.Lo.Y,min a.2.2.2.1 b.Lo.Z,max a.2.2.2.2.1 b.Hi.X,max a.2.2.2.2.2.1 b.Hi.Y,max a.2.2.2.2.2.2 b.Hi.Z))) (some (.inr (a.2.1,a.2.2.1,a.2.2.2.1,a.2.2.2.2.1,a.2.2.2.2.2.1,a.2.2.2.2.2.2)))
noncomputable def qaf (c : List qg) : Option (qg × Int):=
  (q37 c).bind fun d=>cond (d != 0) (some (({Lo:=({X:=0,Y:=0,Z:=0} : ql),Hi:=({X:=0,Y:=0,Z:=0} : ql)} : qg),d)) (cond ((c.length : Int) == 0) (some (({Lo:=({X:=0,Y:=0,Z:=0} : ql),Hi:=({X:=0,Y:=0,Z:=0} : ql)} : qg),6)) ((idx c 0).bind fun a=>(loop (q4w c) (0,a.Lo.X,a.Lo.Y,a.Lo.Z,a.Hi.X,a.Hi.Y,a.Hi.Z)).bind fun b=>some (({Lo:=({X:=b.1,Y:=b.2.1,Z:=b.2.2.1} : ql),Hi:=({X:=b.2.2.2.1,Y:=b.2.2.2.2.1,Z:=b.2.2.2.2.2} : ql)} : qg),0)))
noncomputable def q7w (a : Int) (b : Int) (d : Int) (f : qg) (g : Int) (h : ql) : Option (Int × Int):=
  (qch (w64 ((w64 (f.Hi.Z - g)) * d)) h.Z).bind fun c=>some (max (w64 ((min a (w64 (a - c))) - 2)) (-510),min (w64 ((max b (w64 (b - c))) + 2)) 510)
noncomputable def q3g (b : Int × Int) (c : Int × Int × List qi × List qj) (d : Int) (f : ql) (g : List qg) (a : Int × List qj) : Option ((Int × List qj) ⊕ (List qj)):=
  cond (decide (a.1 < b.2)) (((q3i ({p_:=({X:=w64 ((w64 (2 * c.2.1)) + 1),Y:=w64 ((w64 (2 * a.1)) + 1),Z:=w64 (2 * d)} : ql),d_:=f} : Yd) g).bind fun h=>cond h (some a.2) ((cond (decide ((a.2.length : Int) > 0)) ((idx a.2 (w64 ((a.2.length : Int) - 1))).bind fun j=>some (j.Hi == a.1)) (some false)).bind fun k=>cond k ((idx a.2 (w64 ((a.2.length : Int) - 1))).bind fun l=>(idx a.2 (w64 ((a.2.length : Int) - 1))).bind fun m=>some (a.2.set (w64 ((a.2.length : Int) - 1)).toNat ({Lo:=m.Lo,Hi:=w64 (l.Hi + 1)} : qj))) ((app 16 a.2 [({Lo:=a.1,Hi:=w64 (a.1 + 1)} : qj)]).bind fun n=>some n))).bind fun o=>some (.inl (w64 (a.1 + 1),o))) (some (.inr a.2))
noncomputable def q7x (c : List qj) (b : Int × Int × List qi × List qj) (a : Int × List qi) : Option ((Int × List qi) ⊕ (Int × List qi)):=
  cond (decide (a.1 < (c.length : Int))) ((idx c a.1).bind fun d=>(app 32 a.2 [({X0:=b.2.1,Y0:=d.Lo,X1:=b.2.1,Y1:=d.Hi} : qi)]).bind fun f=>some (.inl (w64 (a.1 + 1),f))) (some (.inr ((b.2.2.1.length : Int),a.2)))
noncomputable def q10 (c : Int × Int × List qi × List qj) (a : Int × List qi) : Option ((Int × List qi) ⊕ (List qi)):=
  cond (decide (a.1 < (a.2.length : Int))) ((idx a.2 a.1).bind fun b=>some (.inl (w64 (a.1 + 1),a.2.set a.1.toNat ({X0:=b.X0,Y0:=b.Y0,X1:=w64 (c.2.1 + 1),Y1:=b.Y1} : qi)))) (some (.inr a.2))
noncomputable def q3f (f : Int × Int) (d : Int × Int) (g : Int) (h : ql) (j : List qg) (a : Int × Int × List qi × List qj) : Option ((Int × Int × List qi × List qj) ⊕ (List qi)):=
  cond (decide (a.2.1 < f.2)) ((loop (q3g d a g h j) (d.1,[])).bind fun b=>(cond ((b.length : Int) == 0) (some true) (some (decide (a.2.1 < a.2.1)))).bind fun k=>(cond k (some true) ((q6p a.2.2.2 b).bind fun l=>some (!l))).bind fun m=>(cond m ((loop (q7x b a) (0,a.2.2.1)).bind fun n=>some n) (some (a.1,a.2.2.1))).bind fun c=>(loop (q10 a) (c.1,c.2)).bind fun o=>some (.inl (c.1,w64 (a.2.1 + 1),o,b))) (some (.inr a.2.2.1))
noncomputable def q3e (d : List qg) (c : Int) (b : ql) : Option (List qi × Int):=
  (q28 d b).bind fun f=>cond (f != 0) (some ([],f)) ((cond (decide (c < (-30))) (some true) (some (decide (c > 30)))).bind fun j=>(cond j (some true) (some (decide (b.Z≤0)))).bind fun k=>cond k (some ([],2)) ((qaf d).bind fun a=>(cond (a.2 != 0) (some true) (some (decide (a.1.Hi.Z≤c)))).bind fun l=>cond l (some ([],0)) ((q7w a.1.Lo.X a.1.Hi.X b.X a.1 c b).bind fun g=>(q7w a.1.Lo.Y a.1.Hi.Y b.Y a.1 c b).bind fun m=>(loop (q3f g m c b d) (0,g.1,[],[])).bind fun h=>cond (decide ((h.length : Int) > 400)) (some ([],4)) (some (h,0)))))
noncomputable def qdq (b : (Int × Int × Int)) (c : (Int × Int × Int)) (a : Int) : Option ((Int) ⊕ ((Unit) ⊕ (Bool))):=
  cond (decide (a < 3)) ((idxA 3 [b.1,b.2.1,b.2.2] a).bind fun d=>(cond (d == 0) ((idxA 3 [c.1,c.2.1,c.2.2] a).bind fun f=>some ((Int.tmod f 2) == 0)) (some false)).bind fun g=>cond g (some (.inr (.inr false))) (some (.inl (w64 (a + 1))))) (some (.inr (.inl ())))
noncomputable def q81 (a : Yd) : Option Bool:=
  (q11 a.p_).bind fun b=>(q11 a.d_).bind fun c=>(loop (qdq c b) 0 : Option ((Unit) ⊕ (Bool))).bind fun d=>(match d with | .inl _=>(q3h a.p_ 240).bind fun f=>some f | .inr g=>some g)
noncomputable def q53 (b : List qg) (c : ql) (a : ql) : Option (Bool × Int):=
  (q28 b a).bind fun d=>cond (d != 0) (some (false,d)) ((q81 ({p_:=c,d_:=a} : Yd)).bind fun f=>cond (!f) (some (false,2)) ((q3i ({p_:=c,d_:=a} : Yd) b).bind fun g=>some (g,0)))
noncomputable def qcs (b : ql) (c : ql) (a : Int) : Option ((Int) ⊕ ((Unit) ⊕ (Bool))):=
  cond (decide (a < 3)) ((qcn b a).bind fun d=>(cond (d == 0) ((qcn c a).bind fun f=>some ((Int.tmod f 2) == 0)) (some false)).bind fun g=>cond g (some (.inr (.inr false))) (some (.inl (w64 (a + 1))))) (some (.inr (.inl ())))
noncomputable def q99 (a : ql) (b : ql) : Option Bool:=
  (loop (qcs b a) 0 : Option ((Unit) ⊕ (Bool))).bind fun c=>(match c with | .inl _=>(Ux a 240).bind fun d=>some d | .inr f=>some f)
noncomputable def q6a (a : Int) : Option Int:=
  cond (decide (a < 0)) (some (IntKind.wrap .u64 (0 - (IntKind.wrap .u64 a)))) (some (IntKind.wrap .u64 a))
noncomputable def q69 (a : Int × Int) : Option ((Int × Int) ⊕ (Int)):=
  cond (a.2 != 0) ((remK a.1 a.2).bind fun b=>some (.inl (a.2,b))) (some (.inr a.1))
noncomputable def q9c (a : Int) (b : Int) : Option Int:=
  (loop q69 (a,b)).bind fun c=>some c
noncomputable def q9b (c : Int) (a : Int) : Option (Y3 × Int):=
  cond (a == 0) (some (({Num:=0,Den:=0} : Y3),18)) ((q6a c).bind fun d=>(q6a a).bind fun f=>(q9c d f).bind fun g=>(quoK .u64 d g).bind fun b=>(quoK .u64 f g).bind fun h=>(cond (decide (b > 1000000000)) (some true) (some (decide (h > 1000000000)))).bind fun j=>cond j (some (({Num:=0,Den:=0} : Y3),16)) ((cond (!((decide (c < 0)) == (decide (a < 0)))) (some (w64 (0 - (w64 b)))) (some (w64 b))).bind fun k=>some (({Num:=k,Den:=w64 h} : Y3),0)))
noncomputable def q27 (d : List qg) (f : ql) (g : ql) (a : Bool × Int × Int × Int) : Option ((Bool × Int × Int × Int) ⊕ (Bool × Int × Int)):=
  cond (decide (a.2.1 < (d.length : Int))) (((idx d a.2.1).bind fun h=>(q83 ({p_:=f,d_:=g} : Yd) h).bind fun b=>(cond b.2 ((cond (!a.1) (some true) ((q3j b.1 ({num_:=a.2.2.1,den_:=a.2.2.2} : Kx)).bind fun j=>some j)).bind fun k=>some k) (some false)).bind fun l=>cond l (some (true,b.1.num_,b.1.den_)) (some (a.1,a.2.2.1,a.2.2.2))).bind fun c=>some (.inl (c.1,w64 (a.2.1 + 1),c.2.1,c.2.2))) (some (.inr (a.1,a.2.2.1,a.2.2.2)))
noncomputable def q3c (c : List qg) (d : ql) (a : ql) : Option (Y3 × Int):=
  (q28 c a).bind fun f=>cond (f != 0) (some (({Num:=0,Den:=0} : Y3),f)) ((q81 ({p_:=d,d_:=a} : Yd)).bind fun h=>cond (!h) (some (({Num:=0,Den:=0} : Y3),2)) ((loop (q27 c d a) (false,0,0,0)).bind fun b=>cond (!b.1) (some (({Num:=0,Den:=0} : Y3),6)) ((q9b b.2.1 b.2.2).bind fun g=>some (g.1,g.2))))
noncomputable def q5l (a : Int) (b : Int) (c : Int) (d : Int) (f : Int) (g : Int) : Option qg:=
  some ({Lo:=({X:=a,Y:=b,Z:=c} : ql),Hi:=({X:=d,Y:=f,Z:=g} : ql)} : qg)
noncomputable def Uv (a : Int) (b : Int) (c : Int) : Option ql:=
  some ({X:=a,Y:=b,Z:=c} : ql)
noncomputable def q8t (a : Int) (b : Int) (c : Int) (d : Int) : Option (List qi):=
  some [({X0:=a,Y0:=b,X1:=c,Y1:=d} : qi)]
noncomputable def q8s : Option Bool:=
  (q5l 0 0 0 1 1 1).bind fun a=>(Uv (-3) 1 1).bind fun j=>(Uv 1 0 0).bind fun k=>(q3c [a] j k).bind fun b=>(Uv 1 0 1).bind fun l=>(q7v [a] l).bind fun c=>(Uv 1 0 1).bind fun m=>(q3d [a] ({X:=0,Y:=0,Z:=0} : ql) 0 m).bind fun d=>(Uv 1 0 1).bind fun n=>(q3d [a] ({X:=0,Y:=0,Z:=0} : ql) 4 n).bind fun f=>(Uv 0 0 1).bind fun o=>(q3e [a] 0 o).bind fun g=>(q5l 0 0 1 1 1 2).bind fun p=>(Uv 1 0 1).bind fun q=>(q3e [p] 0 q).bind fun h=>(cond (b.2 == 0) (some ((b.1.Num == 3) && ((b.1.Den == 2) && true))) (some false)).bind fun r=>(cond r (some (c.2.2 == 0)) (some false)).bind fun s=>(cond s (some (c.1 == 2)) (some false)).bind fun t=>(cond t (some (c.2.1 == 4)) (some false)).bind fun u=>(cond u (some (d.2 == 0)) (some false)).bind fun v=>(cond v (some d.1) (some false)).bind fun x=>(cond x (some (f.2 == 0)) (some false)).bind fun y=>(cond y (some f.1) (some false)).bind fun z=>(cond z (some (g.2 == 0)) (some false)).bind fun aa=>(cond aa ((q8t 0 0 1 1).bind fun ab=>(q2w g.1 ab).bind fun ac=>some ac) (some false)).bind fun ad=>(cond ad (some (h.2 == 0)) (some false)).bind fun ae=>(cond ae ((q8t (-2) 0 0 1).bind fun af=>(q2w h.1 af).bind fun ag=>some ag) (some false)).bind fun ah=>some ah
noncomputable def q5m (a : List qg) (b : ql) : Option Bool:=
  (cond (decide ((a.length : Int)≤6)) ((q9a a).bind fun c=>some c) (some false)).bind fun d=>(cond d ((q98 a b).bind fun f=>some (f == 0)) (some false)).bind fun g=>some g
noncomputable def qdf (b : List qg) (a : Int × List Int) : Option ((Int × List Int) ⊕ (List Int)):=
  cond (decide (a.1 < (b.length : Int))) ((idx b a.1).bind fun c=>(app 8 a.2 [c.Lo.Z,c.Hi.Z]).bind fun d=>some (.inl (w64 (a.1 + 1),d))) (some (.inr a.2))
noncomputable def qdg (b : List qg) (a : Int × List Int) : Option ((Int × List Int) ⊕ (List Int)):=
  cond (decide (a.1 < (b.length : Int))) ((idx b a.1).bind fun c=>(app 8 a.2 [c.Lo.Z,c.Hi.Z]).bind fun d=>some (.inl (w64 (a.1 + 1),d))) (some (.inr a.2))
noncomputable def qdh (c : List qg) (d : Int) (a : Int × List qi) : Option ((Int × List qi) ⊕ (List qi)):=
  cond (decide (a.1 < (c.length : Int))) (((idx c a.1).bind fun b=>(cond (decide (b.Lo.Z≤d)) (some (decide (d < b.Hi.Z))) (some false)).bind fun f=>cond f ((app 32 a.2 [({X0:=b.Lo.X,Y0:=b.Lo.Y,X1:=b.Hi.X,Y1:=b.Hi.Y} : qi)]).bind fun g=>some g) (some a.2)).bind fun h=>some (.inl (w64 (a.1 + 1),h))) (some (.inr a.2))
noncomputable def qdi (c : List qg) (d : Int) (a : Int × List qi) : Option ((Int × List qi) ⊕ (List qi)):=
  cond (decide (a.1 < (c.length : Int))) (((idx c a.1).bind fun b=>(cond (decide (b.Lo.Z≤d)) (some (decide (d < b.Hi.Z))) (some false)).bind fun f=>cond f ((app 32 a.2 [({X0:=b.Lo.X,Y0:=b.Lo.Y,X1:=b.Hi.X,Y1:=b.Hi.Y} : qi)]).bind fun g=>some g) (some a.2)).bind fun h=>some (.inl (w64 (a.1 + 1),h))) (some (.inr a.2))
noncomputable def q4x (f : List Int) (l : List qg) (m : List qg) (o : List qi→List qi→Option (List qi × Int)) (a : Int × List qi × Int × Int × List qg) : Option ((Int × List qi × Int × Int × List qg) ⊕ ((List qi × Int × Int × List qg) ⊕ (List qg × Int))):=
  cond (decide (a.1 < (f.length : Int))) ((idx f (w64 (a.1 - 1))).bind fun g=>(idx f a.1).bind fun p=>((idx [l,m] 0).bind fun q=>(loop (qdh q g) (0,[])).bind fun h=>some h).bind fun r=>((idx [l,m] 1).bind fun s=>(loop (qdi s g) (0,[])).bind fun h=>some h).bind fun t=>((q1s r).bind fun b=>(cond (b.2 == 0) ((q1s t).bind fun j=>cond (j.2 == 0) ((o b.1 j.1).bind fun n=>some (n.1,n.2)) (some (b.1,j.2))) (some (b.1,b.2))).bind fun k=>cond (k.2 != 0) (some (.inr ([],k.2))) ((q7n a.2.2.2.2 a.2.1 a.2.2.1 a.2.2.2.1 g p k.1).bind fun c=>some (.inl (c.1,c.2.1,c.2.2.1,c.2.2.2))) : Option ((List qi × Int × Int × List qg) ⊕ (List qg × Int))).bind fun u=>(match u with | .inl d=>some (.inl (w64 (a.1 + 1),d.1,d.2.1,d.2.2.1,d.2.2.2)) | .inr v=>some (.inr (.inr v)))) (some (.inr (.inl (a.2.1,a.2.2.1,a.2.2.2.1,a.2.2.2.2))))
noncomputable def qaj (k : List qi→List qi→Option (List qi × Int)) (c : List qg) (d : List qg) : Option (List qg × Int):=
  (((idx [c,d] 0).bind fun l=>(loop (qdf l) (0,[])).bind fun b=>some b).bind fun m=>((idx [c,d] 1).bind fun n=>(loop (qdg n) (0,m)).bind fun b=>some b).bind fun h=>(U2 h).bind fun f=>(K2 f.length h.length).bind fun _=>(Uy f).bind fun a=>(K2 a.2.length f.length).bind fun _=>(q14 a.2.length a.1).bind fun _=>some ((a.2.drop a.1.1).take a.1.2)).bind fun o=>((loop (q4x o c d k) (1,[],0,0,[]) : Option ((List qi × Int × Int × List qg) ⊕ (List qg × Int))).bind fun p=>(match p with | .inl b=>some (.inl b) | .inr g=>some (.inr g)) : Option ((List qi × Int × Int × List qg) ⊕ (List qg × Int))).bind fun q=>(match q with | .inl j=>cond (decide ((j.2.2.2.length : Int) > 400)) (some ([],4)) (some (j.2.2.2,0)) | .inr g=>some g)
noncomputable def qah (a : List qg) (b : List qg) (g : List qi→List qi→Option (List qi × Int)) : Option (List qg × Int):=
  (q37 a).bind fun c=>cond (c != 0) (some ([],c)) ((q37 b).bind fun d=>cond (d != 0) (some ([],d)) ((qaj g a b).bind fun f=>some (f.1,f.2)))
noncomputable def q4l (b : List qi) (c : qi→Option Bool) (a : Int) : Option ((Int) ⊕ ((Unit) ⊕ (Int))):=
  cond (decide (a < (b.length : Int))) ((idx b a).bind fun d=>(c d).bind fun f=>cond f (some (.inr (.inr a))) (some (.inl (w64 (a + 1))))) (some (.inr (.inl ())))
noncomputable def qda (a : List qi) (b : qi→Option Bool) : Option Int:=
  (loop (q4l a b) 0 : Option ((Unit) ⊕ (Int))).bind fun c=>(match c with | .inl _=>some (-1) | .inr d=>some d)
noncomputable def q9l (a : List qi) (b : qi→Option Bool) : Option Bool:=
  (qda a b).bind fun c=>some (decide (c ≥ 0))
noncomputable def q2x (a : qi) : Option Bool:=
  (q6i a).bind fun b=>some (!b)
noncomputable def q6c (a : List qi) : Option Int:=
  cond (decide ((a.length : Int) > 400)) (some 4) ((q9l a (fun c=>q2x c)).bind fun d=>cond d (some 8) ((q6h a).bind fun b=>(cond (b.2 != 0) (some true) ((q6o b.1 a).bind fun f=>some (!f))).bind fun g=>cond g (some 8) (some 0)))
noncomputable def q9e (b : List qi) (c : List qi) : Option Int:=
  (q6c b).bind fun a=>cond (a != 0) (some a) ((q6c c).bind fun d=>some d)
noncomputable def qcv (b : List qi) (a : Int × List Int) : Option ((Int × List Int) ⊕ (List Int)):=
  cond (decide (a.1 < (b.length : Int))) ((idx b a.1).bind fun c=>(app 8 a.2 [c.X0,c.X1]).bind fun d=>some (.inl (w64 (a.1 + 1),d))) (some (.inr a.2))
noncomputable def qcw (b : List qi) (a : Int × List Int) : Option ((Int × List Int) ⊕ (List Int)):=
  cond (decide (a.1 < (b.length : Int))) ((idx b a.1).bind fun c=>(app 8 a.2 [c.X0,c.X1]).bind fun d=>some (.inl (w64 (a.1 + 1),d))) (some (.inr a.2))
noncomputable def qcx (c : List qi) (d : Int) (a : Int × List qj) : Option ((Int × List qj) ⊕ (List qj)):=
  cond (decide (a.1 < (c.length : Int))) (((idx c a.1).bind fun b=>(cond (decide (b.X0≤d)) (some (decide (d < b.X1))) (some false)).bind fun f=>cond f ((app 16 a.2 [({Lo:=b.Y0,Hi:=b.Y1} : qj)]).bind fun g=>some g) (some a.2)).bind fun h=>some (.inl (w64 (a.1 + 1),h))) (some (.inr a.2))
noncomputable def qcy (c : List qi) (d : Int) (a : Int × List qj) : Option ((Int × List qj) ⊕ (List qj)):=
  cond (decide (a.1 < (c.length : Int))) (((idx c a.1).bind fun b=>(cond (decide (b.X0≤d)) (some (decide (d < b.X1))) (some false)).bind fun f=>cond f ((app 16 a.2 [({Lo:=b.Y0,Hi:=b.Y1} : qj)]).bind fun g=>some g) (some a.2)).bind fun h=>some (.inl (w64 (a.1 + 1),h))) (some (.inr a.2))
noncomputable def q4j (d : List Int) (j : List qi) (k : List qi) (l : List qj→List qj→Option (List qj × Int)) (a : Int × List qj × Int × Int × List qi) : Option ((Int × List qj × Int × Int × List qi) ⊕ ((List qj × Int × Int × List qi) ⊕ (List qi × Int))):=
  cond (decide (a.1 < (d.length : Int))) ((idx d (w64 (a.1 - 1))).bind fun f=>(idx d a.1).bind fun m=>((idx [j,k] 0).bind fun n=>(loop (qcx n f) (0,[])).bind fun g=>some g).bind fun o=>((idx [j,k] 1).bind fun p=>(loop (qcy p f) (0,[])).bind fun g=>some g).bind fun q=>((l o q).bind fun h=>cond (h.2 != 0) (some (.inr ([],h.2))) ((q6e a.2.2.2.2 a.2.1 a.2.2.1 a.2.2.2.1 f m h.1).bind fun b=>some (.inl (b.1,b.2.1,b.2.2.1,b.2.2.2))) : Option ((List qj × Int × Int × List qi) ⊕ (List qi × Int))).bind fun r=>(match r with | .inl c=>some (.inl (w64 (a.1 + 1),c.1,c.2.1,c.2.2.1,c.2.2.2)) | .inr s=>some (.inr (.inr s)))) (some (.inr (.inl (a.2.1,a.2.2.1,a.2.2.2.1,a.2.2.2.2))))
noncomputable def q9f (c : List qi) (d : List qi) (m : List qj→List qj→Option (List qj × Int)) : Option (List qi × Int):=
  (q9e c d).bind fun h=>cond (h != 0) (some ([],h)) ((((idx [c,d] 0).bind fun n=>(loop (qcv n) (0,[])).bind fun b=>some b).bind fun o=>((idx [c,d] 1).bind fun p=>(loop (qcw p) (0,o)).bind fun b=>some b).bind fun j=>(U2 j).bind fun f=>(K2 f.length j.length).bind fun _=>(Uy f).bind fun a=>(K2 a.2.length f.length).bind fun _=>(q14 a.2.length a.1).bind fun _=>some ((a.2.drop a.1.1).take a.1.2)).bind fun q=>((loop (q4j q c d m) (1,[],0,0,[]) : Option ((List qj × Int × Int × List qi) ⊕ (List qi × Int))).bind fun r=>(match r with | .inl b=>some (.inl b) | .inr g=>some (.inr g)) : Option ((List qj × Int × Int × List qi) ⊕ (List qi × Int))).bind fun s=>(match s with | .inl k=>(cond (decide ((k.2.2.2.length : Int) > 400)) (some (4,[])) (some (0,k.2.2.2))).bind fun l=>some (l.2,l.1) | .inr g=>some g))
noncomputable def q20 (b : List qj) (a : Int) : Option ((Int) ⊕ ((Unit) ⊕ (Int))):=
  cond (decide (a < (b.length : Int))) ((idx b a).bind fun c=>(q3b c).bind fun d=>(cond (!d) (some true) ((cond (decide (a > 0)) ((idx b (w64 (a - 1))).bind fun f=>some (decide (f.Hi ≥ c.Lo))) (some false)).bind fun g=>some g)).bind fun h=>cond h (some (.inr (.inr 8))) (some (.inl (w64 (a + 1))))) (some (.inr (.inl ())))
noncomputable def q39 (a : List qj) : Option Int:=
  cond (decide ((a.length : Int) > 400)) (some 4) ((loop (q20 a) 0 : Option ((Unit) ⊕ (Int))).bind fun b=>(match b with | .inl _=>some 0 | .inr c=>some c))
noncomputable def qan (a : List qj) (b : List qj) (g : Bool→Bool→Option Bool) : Option (List qj × Int):=
  (q39 a).bind fun c=>cond (c != 0) (some ([],c)) ((q39 b).bind fun d=>cond (d != 0) (some ([],d)) ((q3a a b g).bind fun f=>cond (decide ((f.length : Int) > 400)) (some ([],4)) (some (f,0))))
noncomputable def qdk (a : Bool) (b : Bool) : Option Bool:=
  (cond a (some true) (some b)).bind fun c=>some c
noncomputable def q7s (b : List qj) (c : List qj) : Option (List qj × Int):=
  (qan b c (fun d f=>qdk d f)).bind fun a=>some (a.1,a.2)
noncomputable def q6d (b : List qi) (c : List qi) : Option (List qi × Int):=
  (q9f b c (fun d f=>q7s d f)).bind fun a=>some (a.1,a.2)
noncomputable def qag (b : List qg) (c : List qg) : Option (List qg × Int):=
  (qah b c (fun d f=>q6d d f)).bind fun a=>some (a.1,a.2)
noncomputable def qc6 (c : List qg) (d : List qg) (b : ql) (a : ql) : Option Bool:=
  q8s.bind fun f=>(q5m c a).bind fun n=>(cond (!n) (some true) ((q5m d a).bind fun o=>some (!o))).bind fun p=>(cond p (some true) ((q99 b a).bind fun q=>some (!q))).bind fun r=>(cond r (some true) (some (!f))).bind fun s=>cond s (some f) ((qag c d).bind fun g=>(q53 c b a).bind fun h=>(q53 d b a).bind fun k=>(q53 g.1 b a).bind fun l=>(cond (g.2 != 0) (some true) (some (h.2 != 0))).bind fun t=>(cond t (some true) (some (k.2 != 0))).bind fun u=>(cond u (some true) (some (l.2 != 0))).bind fun v=>(cond v (some true) ((cond h.1 (some k.1) (some false)).bind fun x=>some (!(l.1 == x)))).bind fun y=>cond y (some false) ((q3c c b a).bind fun j=>(q3c g.1 b a).bind fun m=>(cond f ((cond h.1 (some (j.2 == 6)) (some false)).bind fun z=>(cond z (some true) ((cond (j.2 == 0) (some (m.2 == 0)) (some false)).bind fun aa=>(cond aa ((q8z j.1 m.1).bind fun ab=>some (!ab)) (some false)).bind fun ac=>some ac)).bind fun ad=>some ad) (some false)).bind fun ae=>some ae))
structure qb9 where
  Turn : Int
  At : ql
  deriving DecidableEq
noncomputable def qk2 (a : Int) : Option ql:=
  cond ((IntKind.wrap .u8 (Int.tdiv a 2)) == 0) (some ({X:=w64 (1 - (w64 (2 * (w64 (Int.tmod a 2))))),Y:=0,Z:=0} : ql)) (cond ((IntKind.wrap .u8 (Int.tdiv a 2)) == 1) (some ({X:=0,Y:=w64 (1 - (w64 (2 * (w64 (Int.tmod a 2))))),Z:=0} : ql)) (some ({X:=0,Y:=0,Z:=w64 (1 - (w64 (2 * (w64 (Int.tmod a 2)))))} : ql)))
noncomputable def qs2 (a : ql) (b : ql) : Option ql:=
  some ({X:=w64 ((w64 (a.Y * b.Z)) - (w64 (a.Z * b.Y))),Y:=w64 ((w64 (a.Z * b.X)) - (w64 (a.X * b.Z))),Z:=w64 ((w64 (a.X * b.Y)) - (w64 (a.Y * b.X)))} : ql)
noncomputable def qs1 (a : Int) : Option (ql × ql × ql):=
  (cond (decide ((Int.tmod a 4) ≥ (IntKind.wrap .u8 ((IntKind.wrap .u8 (Int.tdiv (IntKind.wrap .u8 (Int.tdiv a 4)) 2)) * 2)))) (some (IntKind.wrap .u8 ((Int.tmod a 4) + 2))) (some (Int.tmod a 4))).bind fun d=>(qk2 (IntKind.wrap .u8 (Int.tdiv a 4))).bind fun b=>(qk2 d).bind fun c=>(qs2 b c).bind fun f=>some (b,c,f)
noncomputable def qmg (a : qj) : Option Bool:=
  (cond (decide (a.Lo < a.Hi)) (some (decide (a.Lo ≥ (-1000000)))) (some false)).bind fun b=>(cond b (some (decide (a.Hi≤1000000))) (some false)).bind fun c=>some c
noncomputable def qgh (b : List qj) (a : Int) : Option ((Int) ⊕ ((Unit) ⊕ (Int))):=
  cond (decide (a < (b.length : Int))) ((idx b a).bind fun c=>(qmg c).bind fun d=>(cond (!d) (some true) ((cond (decide (a > 0)) ((idx b (w64 (a - 1))).bind fun f=>(idx b a).bind fun g=>some (decide (f.Hi ≥ g.Lo))) (some false)).bind fun h=>some h)).bind fun j=>cond j (some (.inr (.inr 8))) (some (.inl (w64 (a + 1))))) (some (.inr (.inl ())))
noncomputable def qci (a : List qj) : Option Int:=
  cond (decide ((a.length : Int) > 400)) (some 4) ((loop (qgh a) 0 : Option ((Unit) ⊕ (Int))).bind fun b=>(match b with | .inl _=>some 0 | .inr c=>some c))
noncomputable def q90 (b : List qj) (a : Int × List Int) : Option ((Int × List Int) ⊕ (List Int)):=
  cond (decide (a.1 < (b.length : Int))) ((idx b a.1).bind fun c=>(idx b a.1).bind fun d=>(app 8 a.2 [c.Lo,d.Hi]).bind fun f=>some (.inl (w64 (a.1 + 1),f))) (some (.inr a.2))
noncomputable def qmd (b : List qj) (a : Int × List Int) : Option ((Int × List Int) ⊕ (List Int)):=
  cond (decide (a.1 < (b.length : Int))) ((idx b a.1).bind fun c=>(idx b a.1).bind fun d=>(app 8 a.2 [c.Lo,d.Hi]).bind fun f=>some (.inl (w64 (a.1 + 1),f))) (some (.inr a.2))
noncomputable def qgi (a : List qj) (b : List qj) : Option (List Int):=
  (loop (q90 a) (0,[])).bind fun c=>(loop (qmd b) (0,c)).bind fun d=>(U0 d).bind fun f=>some f
noncomputable def q91 (b : List qj) (c : Int) (a : Int) : Option ((Int) ⊕ ((Unit) ⊕ (Bool))):=
  cond (decide (a < (b.length : Int))) ((idx b a).bind fun d=>(cond (decide (d.Lo≤c)) ((idx b a).bind fun f=>some (decide (c < f.Hi))) (some false)).bind fun g=>cond g (some (.inr (.inr true))) (some (.inl (w64 (a + 1))))) (some (.inr (.inl ())))
noncomputable def qcj (a : List qj) (b : Int) : Option Bool:=
  (loop (q91 a b) 0 : Option ((Unit) ⊕ (Bool))).bind fun c=>(match c with | .inl _=>some false | .inr d=>some d)
noncomputable def q92 (b : List Int) (c : List qj) (d : List qj) (f : Int) (a : Int × List Bool) : Option ((Int × List Bool) ⊕ (List Bool)):=
  cond (decide (a.1 < (b.length : Int))) ((idx b a.1).bind fun g=>(qcj c g).bind fun h=>(idx b a.1).bind fun j=>(qcj d j).bind fun k=>(q5w f h k).bind fun l=>(app 1 a.2 [l]).bind fun m=>some (.inl (w64 (a.1 + 1),m))) (some (.inr a.2))
noncomputable def qck (d : Int) (a : List qj) (b : List qj) : Option (List qj):=
  (qgi a b).bind fun c=>(loop (q92 c a b d) (0,[])).bind fun f=>(q45 c f).bind fun g=>some g
noncomputable def qal (b : List qj) (a : Int × Int) : Option ((Int × Int) ⊕ (Int)):=
  cond (decide (a.2 < (b.length : Int))) ((idx b a.2).bind fun c=>some (.inl (w64 (a.1 + (w64 (c.Hi - c.Lo))),w64 (a.2 + 1)))) (some (.inr a.1))
noncomputable def qo1 (a : List qj) : Option (Int × Int):=
  (q39 a).bind fun b=>cond (b != 0) (some (0,b)) ((loop (qal a) (0,0)).bind fun c=>some (c,0))
noncomputable def q93 (b : List qj) (a : Int × Int) : Option ((Int × Int) ⊕ (Int)):=
  cond (decide (a.2 < (b.length : Int))) ((idx b a.2).bind fun c=>(idx b a.2).bind fun d=>some (.inl (w64 ((w64 (a.1 + c.Hi)) - d.Lo),w64 (a.2 + 1)))) (some (.inr a.1))
noncomputable def qmf (a : List qj) : Option (Int × Int):=
  (qci a).bind fun b=>cond (b != 0) ((qci a).bind fun c=>some (0,c)) ((loop (q93 a) (0,0)).bind fun d=>some (d,0))
structure qhz where
  Frame : qb9
  Size : ql
  deriving DecidableEq
structure q13o where
  t_ : Int
  at_ : ql
  flat_ : ql
  deriving DecidableEq
end Go.Sh
