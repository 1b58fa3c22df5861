/- PX -/
import Derived.Test.YtmnfbjlabfeneaaGreatK7
namespace Go.Sh
open Go Go.Am
structure Q4 where
  X : Int
  Y : Int
  Z : Int
  deriving DecidableEq
structure qj where
  Lo : Q4
  Hi : Q4
  deriving DecidableEq
def Qi (x : qj) : List DV:=[.int .i64 x.Lo.X,.int .i64 x.Lo.Y,.int .i64 x.Lo.Z,.int .i64 x.Hi.X,.int .i64 x.Hi.Y,.int .i64 x.Hi.Z]
noncomputable def Uf (a : Q4) (b : Int) : Option Bool:=
  (cond (decide (a.X ≥ (w64 (0 - b)))) (some (decide (a.X≤b))) (some false)).bind fun c=>(cond c (some (decide (a.Y ≥ (w64 (0 - b))))) (some false)).bind fun d=>(cond d (some (decide (a.Y≤b))) (some false)).bind fun f=>(cond f (some (decide (a.Z ≥ (w64 (0 - b))))) (some false)).bind fun g=>(cond g (some (decide (a.Z≤b))) (some false)).bind fun h=>some h
noncomputable def q58 (b : List qj) (a : Int) : Option ((Int) ⊕ ((Unit) ⊕ (Bool))):=
  cond (decide (a < (b.length : Int))) ((idx b a).bind fun c=>(Uf c.Lo 9).bind fun d=>(cond (!d) (some true) ((idx b a).bind fun f=>(Uf f.Hi 9).bind fun g=>some (!g))).bind fun h=>cond h (some (.inr (.inr false))) (some (.inl (w64 (a + 1))))) (some (.inr (.inl ())))
noncomputable def q7v (a : List qj) : Option Bool:=
  cond (decide ((a.length : Int) > 400)) (some (decide ((a.length : Int)≤420))) ((loop (q58 a) 0 : Option ((Unit) ⊕ (Bool))).bind fun b=>(match b with | .inl _=>some (decide ((a.length : Int)≤6)) | .inr c=>some c))
noncomputable def Ui (b : List qj) (c : qj→Option Bool) (a : Int) : Option ((Int) ⊕ ((Unit) ⊕ (Int))):=
  cond (decide (a < (b.length : Int))) ((idx b a).bind fun d=>(c d).bind fun f=>cond f (some (.inr (.inr a))) (some (.inl (w64 (a + 1))))) (some (.inr (.inl ())))
noncomputable def q8b (a : List qj) (b : qj→Option Bool) : Option Int:=
  (loop (Ui a b) 0 : Option ((Unit) ⊕ (Int))).bind fun c=>(match c with | .inl _=>some (-1) | .inr d=>some d)
noncomputable def q1j (a : List qj) (b : qj→Option Bool) : Option Bool:=
  (q8b a b).bind fun c=>some (decide (c ≥ 0))
noncomputable def q6k (a : Q4) : Option Bool:=
  (cond (decide ((min (min a.X a.Y) a.Z) ≥ (-1000000))) (some (decide ((max (max a.X a.Y) a.Z)≤1000000))) (some false)).bind fun b=>some b
noncomputable def q96 (a : qj) : Option Bool:=
  (cond (decide (a.Lo.X < a.Hi.X)) (some (decide (a.Lo.Y < a.Hi.Y))) (some false)).bind fun b=>(cond b (some (decide (a.Lo.Z < a.Hi.Z))) (some false)).bind fun c=>(cond c ((q6k a.Lo).bind fun d=>some d) (some false)).bind fun f=>(cond f ((q6k a.Hi).bind fun g=>some g) (some false)).bind fun h=>some h
noncomputable def q2o (a : qj) : Option Bool:=
  (q96 a).bind fun b=>some (!b)
def Yi (x : List qj) : List DV:=[.sl 6 (x.map Qi)]
def qbm : ByteArray:=⟨#[0,1,2,2,3,3,3,3,4,4,4,4,4,4,4,4,5,5,5,5,5,5,5,5,5,5,5,5,5,5,5,5,6,6,6,6,6,6,6,6,6,6,6,6,6,6,6,6,6,6,6,6,6,6,6,6,6,6,6,6,6,6,6,6,7,7,7,7,7,7,7,7,7,7,7,7,7,7,7,7,7,7,7,7,7,7,7,7,7,7,7,7,7,7,7,7,7,7,7,7,7,7,7,7,7,7,7,7,7,7,7,7,7,7,7,7,7,7,7,7,7,7,7,7,7,7,7,7,8,8,8,8,8,8,8,8,8,8,8,8,8,8,8,8,8,8,8,8,8,8,8,8,8,8,8,8,8,8,8,8,8,8,8,8,8,8,8,8,8,8,8,8,8,8,8,8,8,8,8,8,8,8,8,8,8,8,8,8,8,8,8,8,8,8,8,8,8,8,8,8,8,8,8,8,8,8,8,8,8,8,8,8,8,8,8,8,8,8,8,8,8,8,8,8,8,8,8,8,8,8,8,8,8,8,8,8,8,8,8,8,8,8,8,8,8,8,8,8,8,8,8,8,8,8,8,8]⟩
noncomputable def q25 (c : Int) : Option Int:=
  (cond (decide (c ≥ 4294967296)) (some (Int.fdiv c (2 ^ 32),32)) (some (c,0))).bind fun a=>(cond (decide (a.1 ≥ 65536)) (some (Int.fdiv a.1 (2 ^ 16),w64 (a.2 + 16))) (some (a.1,a.2))).bind fun b=>(cond (decide (b.1 ≥ 256)) (some (Int.fdiv b.1 (2 ^ 8),w64 (b.2 + 8))) (some (b.1,b.2))).bind fun d=>(q47 qbm (IntKind.wrap .u8 d.1)).bind fun f=>some (w64 (d.2 + (w64 f)))
noncomputable def Uc (a : Int) : Option Int:=
  (q25 a).bind fun b=>some b
noncomputable def q71 (a : Int) : Option Bool:=
  some (a != a)
noncomputable def Yt (a : Int) (b : Int) : Option Bool:=
  (q71 a).bind fun c=>(cond c ((q71 b).bind fun d=>some (!d)) (some false)).bind fun f=>(cond f (some true) (some (decide (a < b)))).bind fun g=>some g
noncomputable def q5v (c : Int) (a : Int × List Int) : Option ((Int × List Int) ⊕ (List Int)):=
  (cond (decide (a.1 > c)) ((idx a.2 a.1).bind fun d=>(idx a.2 (w64 (a.1 - 1))).bind fun f=>(Yt d f).bind fun g=>some g) (some false)).bind fun h=>cond h ((idx a.2 (w64 (a.1 - 1))).bind fun b=>(idx a.2 a.1).bind fun j=>(idx a.2 a.1).bind fun _=>(idx (a.2.set a.1.toNat b) (w64 (a.1 - 1))).bind fun _=>some (.inl (w64 (a.1 - 1),(a.2.set a.1.toNat b).set (w64 (a.1 - 1)).toNat j))) (some (.inr a.2))
noncomputable def q5u (b : Int) (c : Int) (a : Int × List Int) : Option ((Int × List Int) ⊕ (List Int)):=
  cond (decide (a.1 < b)) (((loop (q5v c) (a.1,a.2)).bind fun d=>some d).bind fun f=>some (.inl (w64 (a.1 + 1),f))) (some (.inr a.2))
noncomputable def q5t (b : List Int) (a : Int) (c : Int) : Option (List Int):=
  (loop (q5u c a) (w64 (a + 1),b)).bind fun d=>some d
noncomputable def q6h (d : Int) (b : Int) (a : Int × List Int) : Option ((Int × List Int) ⊕ (List Int)):=
  cond (decide ((w64 ((w64 (2 * a.1)) + 1)) ≥ d)) (some (.inr a.2)) ((cond (decide ((w64 ((w64 ((w64 (2 * a.1)) + 1)) + 1)) < d)) ((idx a.2 (w64 (b + (w64 ((w64 (2 * a.1)) + 1))))).bind fun g=>(idx a.2 (w64 ((w64 (b + (w64 ((w64 (2 * a.1)) + 1)))) + 1))).bind fun h=>(Yt g h).bind fun j=>some j) (some false)).bind fun k=>(cond k (some (w64 ((w64 ((w64 (2 * a.1)) + 1)) + 1))) (some (w64 ((w64 (2 * a.1)) + 1)))).bind fun c=>(idx a.2 (w64 (b + a.1))).bind fun l=>(idx a.2 (w64 (b + c))).bind fun m=>(Yt l m).bind fun n=>cond (!n) (some (.inr a.2)) ((idx a.2 (w64 (b + c))).bind fun f=>(idx a.2 (w64 (b + a.1))).bind fun o=>(idx a.2 (w64 (b + a.1))).bind fun _=>(idx (a.2.set (w64 (b + a.1)).toNat f) (w64 (b + c))).bind fun _=>some (.inl (c,(a.2.set (w64 (b + a.1)).toNat f).set (w64 (b + c)).toNat o))))
noncomputable def q40 (a : List Int) (b : Int) (c : Int) (d : Int) : Option (List Int):=
  (loop (q6h c d) (b,a)).bind fun f=>some f
noncomputable def q5r (d : Int) (b : Int) (a : Int × List Int) : Option ((Int × List Int) ⊕ (List Int)):=
  cond (decide (a.1 ≥ 0)) ((q40 a.2 a.1 (w64 (d - b)) b).bind fun c=>(Qz c.length a.2.length).bind fun _=>some (.inl (w64 (a.1 - 1),c))) (some (.inr a.2))
noncomputable def q5s (b : Int) (a : Int × List Int) : Option ((Int × List Int) ⊕ (List Int)):=
  cond (decide (a.1 ≥ 0)) ((idx a.2 (w64 (b + a.1))).bind fun c=>(idx a.2 b).bind fun d=>(idx a.2 b).bind fun _=>(idx (a.2.set b.toNat c) (w64 (b + a.1))).bind fun _=>(q40 ((a.2.set b.toNat c).set (w64 (b + a.1)).toNat d) 0 a.1 b).bind fun f=>(Qz f.length ((a.2.set b.toNat c).set (w64 (b + a.1)).toNat d).length).bind fun _=>some (.inl (w64 (a.1 - 1),f))) (some (.inr a.2))
noncomputable def q5q (c : List Int) (a : Int) (b : Int) : Option (List Int):=
  (loop (q5r b a) (w64 (Int.tdiv (w64 ((w64 (b - a)) - 1)) 2),c)).bind fun d=>(loop (q5s a) (w64 ((w64 (b - a)) - 1),d)).bind fun f=>some f
noncomputable def q2n (c : List Int) (a : Int) (b : Int) (d : Int) : Option (Int × Int × Int):=
  (idx c b).bind fun f=>(idx c a).bind fun g=>(Yt f g).bind fun h=>cond h (some (b,a,w64 (d + 1))) (some (a,b,d))
noncomputable def q3u (a : List Int) (f : Int) (g : Int) (h : Int) (j : Int) : Option (Int × Int):=
  (q2n a f g j).bind fun b=>(q2n a b.2.1 h b.2.2).bind fun c=>(q2n a b.1 c.1 c.2.2).bind fun d=>some (d.2.1,d.2.2)
noncomputable def q2m (c : List Int) (a : Int) (d : Int) : Option (Int × Int):=
  (q3u c (w64 (a - 1)) a (w64 (a + 1)) d).bind fun b=>some (b.1,b.2)
noncomputable def q5p (d : List Int) (a : Int) (b : Int) : Option (Int × Int):=
  (cond (decide ((w64 (b - a)) ≥ 8)) ((cond (decide ((w64 (b - a)) ≥ 50)) ((q2m d (w64 (a + (w64 ((w64 (Int.tdiv (w64 (b - a)) 4)) * 1)))) 0).bind fun g=>(q2m d (w64 (a + (w64 ((w64 (Int.tdiv (w64 (b - a)) 4)) * 2)))) g.2).bind fun h=>(q2m d (w64 (a + (w64 ((w64 (Int.tdiv (w64 (b - a)) 4)) * 3)))) h.2).bind fun j=>some (g.1,h.1,j.1,j.2)) (some (w64 (a + (w64 ((w64 (Int.tdiv (w64 (b - a)) 4)) * 1))),w64 (a + (w64 ((w64 (Int.tdiv (w64 (b - a)) 4)) * 2))),w64 (a + (w64 ((w64 (Int.tdiv (w64 (b - a)) 4)) * 3))),0))).bind fun f=>(q3u d f.1 f.2.1 f.2.2.1 f.2.2.2).bind fun k=>some (k.1,k.2)) (some (w64 (a + (w64 ((w64 (Int.tdiv (w64 (b - a)) 4)) * 2))),0))).bind fun c=>cond (c.2 == 0) (some (c.1,1)) (cond (c.2 == 12) (some (c.1,2)) (some (c.1,0)))
noncomputable def q92 (a : Int × Int × List Int) : Option ((Int × Int × List Int) ⊕ (List Int)):=
  cond (decide (a.1 < a.2.1)) ((idx a.2.2 a.2.1).bind fun b=>(idx a.2.2 a.1).bind fun c=>(idx a.2.2 a.1).bind fun _=>(idx (a.2.2.set a.1.toNat b) a.2.1).bind fun _=>some (.inl (w64 (a.1 + 1),w64 (a.2.1 - 1),(a.2.2.set a.1.toNat b).set a.2.1.toNat c))) (some (.inr a.2.2))
noncomputable def q6f (a : List Int) (b : Int) (c : Int) : Option (List Int):=
  (loop q92 (b,w64 (c - 1),a)).bind fun d=>some d
noncomputable def q5z (c : Int) (b : Int × Int × List Int) (a : Int) : Option ((Int) ⊕ (Int)):=
  (cond (decide (a < c)) ((idx b.2.2 a).bind fun d=>(idx b.2.2 (w64 (a - 1))).bind fun f=>(Yt d f).bind fun g=>some (!g)) (some false)).bind fun h=>cond h (some (.inl (w64 (a + 1)))) (some (.inr a))
noncomputable def q8p (a : Int × List Int) : Option ((Int × List Int) ⊕ (List Int)):=
  cond (decide (a.1 ≥ 1)) ((idx a.2 a.1).bind fun c=>(idx a.2 (w64 (a.1 - 1))).bind fun d=>(Yt c d).bind fun f=>cond (!f) (some (.inr a.2)) ((idx a.2 (w64 (a.1 - 1))).bind fun b=>(idx a.2 a.1).bind fun g=>(idx a.2 a.1).bind fun _=>(idx (a.2.set a.1.toNat b) (w64 (a.1 - 1))).bind fun _=>some (.inl (w64 (a.1 - 1),(a.2.set a.1.toNat b).set (w64 (a.1 - 1)).toNat g)))) (some (.inr a.2))
noncomputable def q60 (d : Int) (b : Int) (a : Int × List Int) : Option ((Int × List Int) ⊕ (Int × List Int)):=
  cond (decide (a.1 < d)) ((idx a.2 a.1).bind fun f=>(idx a.2 (w64 (a.1 - 1))).bind fun g=>(Yt f g).bind fun h=>cond (!h) (some (.inr (b,a.2))) ((idx a.2 (w64 (a.1 - 1))).bind fun c=>(idx a.2 a.1).bind fun j=>(idx a.2 a.1).bind fun _=>(idx (a.2.set a.1.toNat c) (w64 (a.1 - 1))).bind fun _=>some (.inl (w64 (a.1 + 1),(a.2.set a.1.toNat c).set (w64 (a.1 - 1)).toNat j)))) (some (.inr (b,a.2)))
noncomputable def q3x (c : Int) (g : Int) (b : Int × Int × List Int) : Option ((Int × Int × List Int) ⊕ ((List Int) ⊕ (Bool × List Int))):=
  cond (decide (b.2.1 < 5)) (((loop (q5z c b) b.1).bind fun a=>cond (a == c) (some (.inr (true,b.2.2))) (cond (decide ((w64 (c - g)) < 50)) (some (.inr (false,b.2.2))) ((idx b.2.2 (w64 (a - 1))).bind fun d=>(idx b.2.2 a).bind fun h=>(idx b.2.2 a).bind fun _=>(idx (b.2.2.set a.toNat d) (w64 (a - 1))).bind fun _=>(cond (decide ((w64 (a - g)) ≥ 2)) ((loop q8p (w64 (a - 1),(b.2.2.set a.toNat d).set (w64 (a - 1)).toNat h)).bind fun f=>some f) (some ((b.2.2.set a.toNat d).set (w64 (a - 1)).toNat h))).bind fun j=>cond (decide ((w64 (c - a)) ≥ 2)) ((loop (q60 c a) (w64 (a + 1),j)).bind fun f=>some (.inl f)) (some (.inl (a,j))))) : Option ((Int × List Int) ⊕ (Bool × List Int))).bind fun l=>(match l with | .inl k=>some (.inl (k.1,w64 (b.2.1 + 1),k.2)) | .inr m=>some (.inr (.inr m)))) (some (.inr (.inl b.2.2)))
noncomputable def q3w (b : List Int) (a : Int) (c : Int) : Option (Bool × List Int):=
  (loop (q3x c a) (w64 (a + 1),0,b) : Option ((List Int) ⊕ (Bool × List Int))).bind fun d=>(match d with | .inl f=>some (false,f) | .inr g=>some g)
noncomputable def q63 (b : Int × Int × List Int) (c : Int) (a : Int) : Option ((Int) ⊕ (Int)):=
  (cond (decide (a≤b.2.1)) ((idx b.2.2 c).bind fun d=>(idx b.2.2 a).bind fun f=>(Yt d f).bind fun g=>some (!g)) (some false)).bind fun h=>cond h (some (.inl (w64 (a + 1)))) (some (.inr a))
noncomputable def q64 (c : Int) (b : Int × Int × List Int) (d : Int) (a : Int) : Option ((Int) ⊕ (Int)):=
  (cond (decide (c≤a)) ((idx b.2.2 d).bind fun f=>(idx b.2.2 a).bind fun g=>(Yt f g).bind fun h=>some h) (some false)).bind fun j=>cond j (some (.inl (w64 (a - 1)))) (some (.inr a))
noncomputable def q62 (d : Int) (a : Int × Int × List Int) : Option ((Int × Int × List Int) ⊕ (Int × List Int)):=
  (loop (q63 a d) a.1).bind fun b=>(loop (q64 b a d) a.2.1).bind fun c=>cond (decide (b > c)) (some (.inr (b,a.2.2))) ((idx a.2.2 c).bind fun f=>(idx a.2.2 b).bind fun g=>(idx a.2.2 b).bind fun _=>(idx (a.2.2.set b.toNat f) c).bind fun _=>some (.inl (w64 (b + 1),w64 (c - 1),(a.2.2.set b.toNat f).set c.toNat g)))
noncomputable def q61 (b : List Int) (a : Int) (g : Int) (c : Int) : Option (Int × List Int):=
  (idx b c).bind fun d=>(idx b a).bind fun h=>(idx b a).bind fun _=>(idx (b.set a.toNat d) c).bind fun _=>(loop (q62 a) (w64 (a + 1),w64 (g - 1),(b.set a.toNat d).set c.toNat h)).bind fun f=>some (f.1,f.2)
noncomputable def q66 (h : Int) (c : List Int) (b : Int) (d : Int) (f : Int) (g : Int) (a : Int) : Option ((Int) ⊕ (Int)):=
  (cond (decide (a≤(w64 (h - 1)))) ((idx ((c.set b.toNat d).set f.toNat g) a).bind fun j=>(idx ((c.set b.toNat d).set f.toNat g) b).bind fun k=>(Yt j k).bind fun l=>some l) (some false)).bind fun m=>cond m (some (.inl (w64 (a + 1)))) (some (.inr a))
noncomputable def q67 (h : Int) (c : List Int) (b : Int) (d : Int) (f : Int) (g : Int) (a : Int) : Option ((Int) ⊕ (Int)):=
  (cond (decide (h≤a)) ((idx ((c.set b.toNat d).set f.toNat g) a).bind fun j=>(idx ((c.set b.toNat d).set f.toNat g) b).bind fun k=>(Yt j k).bind fun l=>some (!l)) (some false)).bind fun m=>cond m (some (.inl (w64 (a - 1)))) (some (.inr a))
noncomputable def q69 (b : Int × Int × List Int) (c : Int) (a : Int) : Option ((Int) ⊕ (Int)):=
  (cond (decide (a≤b.2.1)) ((idx b.2.2 a).bind fun d=>(idx b.2.2 c).bind fun f=>(Yt d f).bind fun g=>some g) (some false)).bind fun h=>cond h (some (.inl (w64 (a + 1)))) (some (.inr a))
noncomputable def q6a (c : Int) (b : Int × Int × List Int) (d : Int) (a : Int) : Option ((Int) ⊕ (Int)):=
  (cond (decide (c≤a)) ((idx b.2.2 a).bind fun f=>(idx b.2.2 d).bind fun g=>(Yt f g).bind fun h=>some (!h)) (some false)).bind fun j=>cond j (some (.inl (w64 (a - 1)))) (some (.inr a))
noncomputable def q68 (d : Int) (a : Int × Int × List Int) : Option ((Int × Int × List Int) ⊕ (Int × List Int)):=
  (loop (q69 a d) a.1).bind fun b=>(loop (q6a b a d) a.2.1).bind fun c=>cond (decide (b > c)) (some (.inr (c,a.2.2))) ((idx a.2.2 c).bind fun f=>(idx a.2.2 b).bind fun g=>(idx a.2.2 b).bind fun _=>(idx (a.2.2.set b.toNat f) c).bind fun _=>some (.inl (w64 (b + 1),w64 (c - 1),(a.2.2.set b.toNat f).set c.toNat g)))
noncomputable def q65 (b : List Int) (a : Int) (k : Int) (c : Int) : Option (Int × Bool × List Int):=
  (idx b c).bind fun d=>(idx b a).bind fun f=>(idx b a).bind fun _=>(idx (b.set a.toNat d) c).bind fun _=>(loop (q66 k b a d c f) (w64 (a + 1))).bind fun j=>(loop (q67 j b a d c f) (w64 (k - 1))).bind fun g=>cond (decide (j > g)) ((idx ((b.set a.toNat d).set c.toNat f) a).bind fun l=>(idx ((b.set a.toNat d).set c.toNat f) g).bind fun o=>(idx ((b.set a.toNat d).set c.toNat f) g).bind fun _=>(idx (((b.set a.toNat d).set c.toNat f).set g.toNat l) a).bind fun _=>some (g,true,(((b.set a.toNat d).set c.toNat f).set g.toNat l).set a.toNat o)) ((idx ((b.set a.toNat d).set c.toNat f) g).bind fun m=>(idx ((b.set a.toNat d).set c.toNat f) j).bind fun p=>(idx ((b.set a.toNat d).set c.toNat f) j).bind fun _=>(idx (((b.set a.toNat d).set c.toNat f).set j.toNat m) g).bind fun _=>(loop (q68 a) (w64 (j + 1),w64 (g - 1),(((b.set a.toNat d).set c.toNat f).set j.toNat m).set g.toNat p)).bind fun h=>(idx h.2 a).bind fun n=>(idx h.2 h.1).bind fun q=>(idx h.2 h.1).bind fun _=>(idx (h.2.set h.1.toNat n) a).bind fun _=>some (h.1,false,(h.2.set h.1.toNat n).set a.toNat q))
noncomputable def q1k (a : Int) : Option Int:=
  (Uc (IntKind.wrap .u64 a)).bind fun b=>(shlK .u64 1 b).bind fun c=>some c
noncomputable def q1l (a : Int) : Option Int:=
  some (xorI .u64 (xorI .u64 (xorI .u64 a (IntKind.wrap .u64 (a * (2 ^ 13)))) (Int.fdiv (xorI .u64 a (IntKind.wrap .u64 (a * (2 ^ 13)))) (2 ^ 7))) (IntKind.wrap .u64 ((xorI .u64 (xorI .u64 a (IntKind.wrap .u64 (a * (2 ^ 13)))) (Int.fdiv (xorI .u64 a (IntKind.wrap .u64 (a * (2 ^ 13)))) (2 ^ 7))) * (2 ^ 17))))
noncomputable def q5o (b : Int) (d : Int) (f : Int) (a : Int × List Int × Int) : Option ((Int × List Int × Int) ⊕ (List Int)):=
  cond (decide (a.1≤(w64 ((w64 (b + (w64 ((w64 (Int.tdiv (w64 (d - b)) 4)) * 2)))) + 1)))) ((q1l a.2.2).bind fun c=>(cond (decide ((w64 (andI .u64 c (IntKind.wrap .u64 (f - 1)))) ≥ (w64 (d - b)))) (some (w64 ((w64 (andI .u64 c (IntKind.wrap .u64 (f - 1)))) - (w64 (d - b))))) (some (w64 (andI .u64 c (IntKind.wrap .u64 (f - 1)))))).bind fun g=>(idx a.2.1 (w64 (b + g))).bind fun h=>(idx a.2.1 a.1).bind fun j=>(idx a.2.1 a.1).bind fun _=>(idx (a.2.1.set a.1.toNat h) (w64 (b + g))).bind fun _=>some (.inl (w64 (a.1 + 1),(a.2.1.set a.1.toNat h).set (w64 (b + g)).toNat j,c))) (some (.inr a.2.1))
noncomputable def q5n (c : List Int) (a : Int) (b : Int) : Option (List Int):=
  cond (decide ((w64 (b - a)) ≥ 8)) ((q1k (w64 (b - a))).bind fun d=>(loop (q5o a b d) (w64 ((w64 (a + (w64 ((w64 (Int.tdiv (w64 (b - a)) 4)) * 2)))) - 1),c,IntKind.wrap .u64 (w64 (b - a)))).bind fun f=>some f) (some c)
noncomputable def q3y (rec : List Int→Int→Int→Int→Option (List Int)) (a : Int × Int × Int × Bool × Bool × List Int) : Option ((Int × Int × Int × Bool × Bool × List Int) ⊕ (List Int)):=
  cond (decide ((w64 (a.2.1 - a.1))≤12)) ((q5t a.2.2.2.2.2 a.1 a.2.1).bind fun k=>(Qz k.length a.2.2.2.2.2.length).bind fun _=>some (.inr k)) (cond (a.2.2.1 == 0) ((q5q a.2.2.2.2.2 a.1 a.2.1).bind fun l=>(Qz l.length a.2.2.2.2.2.length).bind fun _=>some (.inr l)) ((cond (!a.2.2.2.1) ((q5n a.2.2.2.2.2 a.1 a.2.1).bind fun m=>(Qz m.length a.2.2.2.2.2.length).bind fun _=>some (w64 (a.2.2.1 - 1),m)) (some (a.2.2.1,a.2.2.2.2.2))).bind fun c=>(q5p c.2 a.1 a.2.1).bind fun g=>(cond (g.2 == 2) ((q6f c.2 a.1 a.2.1).bind fun n=>(Qz n.length c.2.length).bind fun _=>some (w64 ((w64 (a.2.1 - 1)) - (w64 (g.1 - a.1))),1,n)) (some (g.1,g.2,c.2))).bind fun d=>(cond a.2.2.2.1 (some a.2.2.2.2.1) (some false)).bind fun q=>(cond q (some (d.2.1 == 1)) (some false)).bind fun r=>(cond r ((q3w d.2.2 a.1 a.2.1).bind fun h=>(Qz h.2.length d.2.2.length).bind fun _=>cond h.1 (some (.inr h.2)) (some (.inl h.2))) (some (.inl d.2.2)) : Option ((List Int) ⊕ (List Int))).bind fun s=>(match s with | .inl f=>(cond (decide (a.1 > 0)) ((idx f (w64 (a.1 - 1))).bind fun t=>(idx f d.1).bind fun u=>(Yt t u).bind fun v=>some (!v)) (some false)).bind fun x=>cond x ((q61 f a.1 a.2.1 d.1).bind fun j=>(Qz j.2.length f.length).bind fun _=>some (.inl (j.1,a.2.1,c.1,a.2.2.2.1,a.2.2.2.2.1,j.2))) ((q65 f a.1 a.2.1 d.1).bind fun b=>(Qz b.2.2.length f.length).bind fun _=>cond (decide ((w64 (b.1 - a.1)) < (w64 (a.2.1 - b.1)))) ((rec b.2.2 a.1 b.1 c.1).bind fun o=>(Qz o.length b.2.2.length).bind fun _=>some (.inl (w64 (b.1 + 1),a.2.1,c.1,decide ((w64 (b.1 - a.1)) ≥ (w64 (Int.tdiv (w64 (a.2.1 - a.1)) 8))),b.2.1,o))) ((rec b.2.2 (w64 (b.1 + 1)) a.2.1 c.1).bind fun p=>(Qz p.length b.2.2.length).bind fun _=>some (.inl (a.1,b.1,c.1,decide ((w64 (a.2.1 - b.1)) ≥ (w64 (Int.tdiv (w64 (a.2.1 - a.1)) 8))),b.2.1,p)))) | .inr y=>some (.inr y))))
noncomputable def q3z (rec : List Int→Int→Int→Int→Option (List Int)) (a : List Int) (b : Int) (c : Int) (d : Int) : Option (List Int):=
  (loop (q3y rec) (b,c,d,true,true,a)).bind fun f=>some f
noncomputable def q6e : Nat→List Int→Int→Int→Int→Option (List Int)
  | 0,_,_,_,_=>none
  | n + 1,a,b,c,d=>q3z (q6e n)  a b c d
noncomputable def Uj (a : List Int) : Option (List Int):=
  (Uc (IntKind.wrap .u64 (a.length : Int))).bind fun c=>(lim (fun n=>q6e n a 0 (a.length : Int) c)).bind fun b=>(Qz b.length a.length).bind fun _=>some b
noncomputable def q1i (a : Int × (Nat × Nat) × Int × List Int) : Option ((Int × (Nat × Nat) × Int × List Int) ⊕ (Int × List Int)):=
  cond (decide (a.2.2.1 < (a.2.1.2 : Int))) (((idxW a.2.2.2 a.2.1 a.2.2.1).bind fun c=>(idxW a.2.2.2 a.2.1 (w64 (a.2.2.1 - 1))).bind fun d=>cond (c != d) ((idxW a.2.2.2 a.2.1 a.2.2.1).bind fun f=>(idx a.2.2.2 a.1).bind fun _=>some (w64 (a.1 + 1),a.2.1,a.2.2.2.set a.1.toNat f)) (some (a.1,a.2.1,a.2.2.2))).bind fun b=>some (.inl (b.1,b.2.1,w64 (a.2.2.1 + 1),b.2.2))) (some (.inr (a.1,a.2.2.2)))
noncomputable def J0 (a : List Int) (b : Int) : Option ((Int) ⊕ ((Unit) ⊕ ((Nat × Nat) × List Int))):=
  cond (decide (b < (a.length : Int))) ((idx a b).bind fun d=>(idx a (w64 (b - 1))).bind fun f=>cond (d == f) ((sub2 a.length b a.length).bind fun g=>(loop q1i (b,g,1,a)).bind fun c=>(sub2 c.2.length c.1 c.2.length).bind fun h=>(sub2 c.2.length 0 c.1).bind fun j=>some (.inr (.inr (j,clrw c.2 h 0)))) (some (.inl (w64 (b + 1))))) (some (.inr (.inl ())))
noncomputable def q2k (a : List Int) : Option ((Nat × Nat) × List Int):=
  cond (decide ((a.length : Int) < 2)) (some ((0,a.length),a)) ((loop (J0 a) 1 : Option ((Unit) ⊕ ((Nat × Nat) × List Int))).bind fun b=>(match b with | .inl _=>some ((0,a.length),a) | .inr c=>some c))
structure qq where
  X0 : Int
  Y0 : Int
  X1 : Int
  Y1 : Int
  deriving DecidableEq
def Qd (x : qq) : List DV:=[.int .i64 x.X0,.int .i64 x.Y0,.int .i64 x.X1,.int .i64 x.Y1]
noncomputable def q3s (b : List qq) (c : qq→Option Bool) (a : Int) : Option ((Int) ⊕ ((Unit) ⊕ (Int))):=
  cond (decide (a < (b.length : Int))) ((idx b a).bind fun d=>(c d).bind fun f=>cond f (some (.inr (.inr a))) (some (.inl (w64 (a + 1))))) (some (.inr (.inl ())))
noncomputable def qbh (a : List qq) (b : qq→Option Bool) : Option Int:=
  (loop (q3s a b) 0 : Option ((Unit) ⊕ (Int))).bind fun c=>(match c with | .inl _=>some (-1) | .inr d=>some d)
noncomputable def q87 (a : List qq) (b : qq→Option Bool) : Option Bool:=
  (qbh a b).bind fun c=>some (decide (c ≥ 0))
noncomputable def q2e (a : Int) : Option Bool:=
  (cond (decide (a ≥ (-1000000))) (some (decide (a≤1000000))) (some false)).bind fun b=>some b
noncomputable def q83 (a : qq) : Option Bool:=
  (cond (decide (a.X0 < a.X1)) (some (decide (a.Y0 < a.Y1))) (some false)).bind fun b=>(cond b ((q2e a.X0).bind fun c=>some c) (some false)).bind fun d=>(cond d ((q2e a.X1).bind fun f=>some f) (some false)).bind fun g=>(cond g ((q2e a.Y0).bind fun h=>some h) (some false)).bind fun j=>(cond j ((q2e a.Y1).bind fun k=>some k) (some false)).bind fun l=>some l
noncomputable def q2d (a : qq) : Option Bool:=
  (q83 a).bind fun b=>some (!b)
def Zh (x : List qq) : List DV:=[.sl 4 (x.map Qd)]
structure qo where
  Lo : Int
  Hi : Int
  deriving DecidableEq
def Qy (x : qo) : List DV:=[.int .i64 x.Lo,.int .i64 x.Hi]
noncomputable def q2l (b : List qo) (c : qo→Option Bool) (a : Int) : Option ((Int) ⊕ ((Unit) ⊕ (Int))):=
  cond (decide (a < (b.length : Int))) ((idx b a).bind fun d=>(c d).bind fun f=>cond f (some (.inr (.inr a))) (some (.inl (w64 (a + 1))))) (some (.inr (.inl ())))
noncomputable def q8c (a : List qo) (b : qo→Option Bool) : Option Int:=
  (loop (q2l a b) 0 : Option ((Unit) ⊕ (Int))).bind fun c=>(match c with | .inl _=>some (-1) | .inr d=>some d)
noncomputable def q88 (a : List qo) (b : qo→Option Bool) : Option Bool:=
  (q8c a b).bind fun c=>some (decide (c ≥ 0))
noncomputable def q2p (a : qo) : Option Bool:=
  (cond (decide (a.Lo < a.Hi)) (some (decide (a.Lo ≥ (-1000000)))) (some false)).bind fun b=>(cond b (some (decide (a.Hi≤1000000))) (some false)).bind fun c=>some c
noncomputable def qbl (a : qo) : Option Bool:=
  (q2p a).bind fun b=>some (!b)
def Ur (x : List qo) : List DV:=[.sl 2 (x.map Qy)]
structure qi where
  at_ : Int
  list_ : Int
  by_ : Int
  deriving DecidableEq
def Q7 (x : qi) : List DV:=[.int .i64 x.at_,.int .i64 x.list_,.int .i64 x.by_]
noncomputable def q9a (a : qi) (b : qi) : Option Int:=
  some (w64 (a.at_ - b.at_))
noncomputable def q8l (c : Int) (d : qi→qi→Option Int) (a : Int × List qi) : Option ((Int × List qi) ⊕ (List qi)):=
  (cond (decide (a.1 > c)) ((idx a.2 a.1).bind fun f=>(idx a.2 (w64 (a.1 - 1))).bind fun g=>(d f g).bind fun h=>some (decide (h < 0))) (some false)).bind fun j=>cond j ((idx a.2 (w64 (a.1 - 1))).bind fun b=>(idx a.2 a.1).bind fun k=>(idx a.2 a.1).bind fun _=>(idx (a.2.set a.1.toNat b) (w64 (a.1 - 1))).bind fun _=>some (.inl (w64 (a.1 - 1),(a.2.set a.1.toNat b).set (w64 (a.1 - 1)).toNat k))) (some (.inr a.2))
noncomputable def q8k (b : Int) (c : Int) (d : qi→qi→Option Int) (a : Int × List qi) : Option ((Int × List qi) ⊕ (List qi)):=
  cond (decide (a.1 < b)) (((loop (q8l c d) (a.1,a.2)).bind fun f=>some f).bind fun g=>some (.inl (w64 (a.1 + 1),g))) (some (.inr a.2))
noncomputable def q8j (b : qi→qi→Option Int) (c : List qi) (a : Int) (d : Int) : Option (List qi):=
  (loop (q8k d a b) (w64 (a + 1),c)).bind fun f=>some f
noncomputable def q93 (d : Int) (b : Int) (f : qi→qi→Option Int) (a : Int × List qi) : Option ((Int × List qi) ⊕ (List qi)):=
  cond (decide ((w64 ((w64 (2 * a.1)) + 1)) ≥ d)) (some (.inr a.2)) ((cond (decide ((w64 ((w64 ((w64 (2 * a.1)) + 1)) + 1)) < d)) ((idx a.2 (w64 (b + (w64 ((w64 (2 * a.1)) + 1))))).bind fun h=>(idx a.2 (w64 ((w64 (b + (w64 ((w64 (2 * a.1)) + 1)))) + 1))).bind fun j=>(f h j).bind fun k=>some (decide (k < 0))) (some false)).bind fun l=>(cond l (some (w64 ((w64 ((w64 (2 * a.1)) + 1)) + 1))) (some (w64 ((w64 (2 * a.1)) + 1)))).bind fun c=>(idx a.2 (w64 (b + a.1))).bind fun m=>(idx a.2 (w64 (b + c))).bind fun n=>(f m n).bind fun o=>cond (!(decide (o < 0))) (some (.inr a.2)) ((idx a.2 (w64 (b + c))).bind fun g=>(idx a.2 (w64 (b + a.1))).bind fun p=>(idx a.2 (w64 (b + a.1))).bind fun _=>(idx (a.2.set (w64 (b + a.1)).toNat g) (w64 (b + c))).bind fun _=>some (.inl (c,(a.2.set (w64 (b + a.1)).toNat g).set (w64 (b + c)).toNat p))))
noncomputable def q6g (a : qi→qi→Option Int) (b : List qi) (c : Int) (d : Int) (f : Int) : Option (List qi):=
  (loop (q93 d f a) (c,b)).bind fun g=>some g
noncomputable def q8h (d : qi→qi→Option Int) (f : Int) (b : Int) (a : Int × List qi) : Option ((Int × List qi) ⊕ (List qi)):=
  cond (decide (a.1 ≥ 0)) ((q6g d a.2 a.1 (w64 (f - b)) b).bind fun c=>(Qz c.length a.2.length).bind fun _=>some (.inl (w64 (a.1 - 1),c))) (some (.inr a.2))
noncomputable def q8i (b : Int) (g : qi→qi→Option Int) (a : Int × List qi) : Option ((Int × List qi) ⊕ (List qi)):=
  cond (decide (a.1 ≥ 0)) ((idx a.2 (w64 (b + a.1))).bind fun c=>(idx a.2 b).bind fun d=>(idx a.2 b).bind fun _=>(idx (a.2.set b.toNat c) (w64 (b + a.1))).bind fun _=>(q6g g ((a.2.set b.toNat c).set (w64 (b + a.1)).toNat d) 0 a.1 b).bind fun f=>(Qz f.length ((a.2.set b.toNat c).set (w64 (b + a.1)).toNat d).length).bind fun _=>some (.inl (w64 (a.1 - 1),f))) (some (.inr a.2))
noncomputable def q8g (c : qi→qi→Option Int) (d : List qi) (a : Int) (b : Int) : Option (List qi):=
  (loop (q8h c b a) (w64 (Int.tdiv (w64 ((w64 (b - a)) - 1)) 2),d)).bind fun f=>(loop (q8i a c) (w64 ((w64 (b - a)) - 1),f)).bind fun g=>some g
noncomputable def q3v (f : qi→qi→Option Int) (c : List qi) (a : Int) (b : Int) (d : Int) : Option (Int × Int × Int):=
  (idx c b).bind fun g=>(idx c a).bind fun h=>(f g h).bind fun j=>cond (decide (j < 0)) (some (b,a,w64 (d + 1))) (some (a,b,d))
noncomputable def q5w (a : qi→qi→Option Int) (b : List qi) (g : Int) (h : Int) (j : Int) (k : Int) : Option (Int × Int):=
  (q3v a b g h k).bind fun c=>(q3v a b c.2.1 j c.2.2).bind fun d=>(q3v a b c.1 d.1 d.2.2).bind fun f=>some (f.2.1,f.2.2)
noncomputable def q3t (c : qi→qi→Option Int) (d : List qi) (a : Int) (f : Int) : Option (Int × Int):=
  (q5w c d (w64 (a - 1)) a (w64 (a + 1)) f).bind fun b=>some (b.1,b.2)
noncomputable def q8f (d : List qi) (a : Int) (b : Int) (f : qi→qi→Option Int) : Option (Int × Int):=
  (cond (decide ((w64 (b - a)) ≥ 8)) ((cond (decide ((w64 (b - a)) ≥ 50)) ((q3t f d (w64 (a + (w64 ((w64 (Int.tdiv (w64 (b - a)) 4)) * 1)))) 0).bind fun h=>(q3t f d (w64 (a + (w64 ((w64 (Int.tdiv (w64 (b - a)) 4)) * 2)))) h.2).bind fun j=>(q3t f d (w64 (a + (w64 ((w64 (Int.tdiv (w64 (b - a)) 4)) * 3)))) j.2).bind fun k=>some (h.1,j.1,k.1,k.2)) (some (w64 (a + (w64 ((w64 (Int.tdiv (w64 (b - a)) 4)) * 1))),w64 (a + (w64 ((w64 (Int.tdiv (w64 (b - a)) 4)) * 2))),w64 (a + (w64 ((w64 (Int.tdiv (w64 (b - a)) 4)) * 3))),0))).bind fun g=>(q5w f d g.1 g.2.1 g.2.2.1 g.2.2.2).bind fun l=>some (l.1,l.2)) (some (w64 (a + (w64 ((w64 (Int.tdiv (w64 (b - a)) 4)) * 2))),0))).bind fun c=>cond (c.2 == 0) (some (c.1,1)) (cond (c.2 == 12) (some (c.1,2)) (some (c.1,0)))
noncomputable def q91 (a : Int × Int × List qi) : Option ((Int × Int × List qi) ⊕ (List qi)):=
  cond (decide (a.1 < a.2.1)) ((idx a.2.2 a.2.1).bind fun b=>(idx a.2.2 a.1).bind fun c=>(idx a.2.2 a.1).bind fun _=>(idx (a.2.2.set a.1.toNat b) a.2.1).bind fun _=>some (.inl (w64 (a.1 + 1),w64 (a.2.1 - 1),(a.2.2.set a.1.toNat b).set a.2.1.toNat c))) (some (.inr a.2.2))
noncomputable def q90 (f : qi→qi→Option Int) (a : List qi) (b : Int) (c : Int) : Option (List qi):=
  (loop q91 (b,w64 (c - 1),a)).bind fun d=>some d
noncomputable def q8m (c : Int) (b : Int × Int × List qi) (d : qi→qi→Option Int) (a : Int) : Option ((Int) ⊕ (Int)):=
  (cond (decide (a < c)) ((idx b.2.2 a).bind fun f=>(idx b.2.2 (w64 (a - 1))).bind fun g=>(d f g).bind fun h=>some (!(decide (h < 0)))) (some false)).bind fun j=>cond j (some (.inl (w64 (a + 1)))) (some (.inr a))
noncomputable def q8n (c : qi→qi→Option Int) (a : Int × List qi) : Option ((Int × List qi) ⊕ (List qi)):=
  cond (decide (a.1 ≥ 1)) ((idx a.2 a.1).bind fun d=>(idx a.2 (w64 (a.1 - 1))).bind fun f=>(c d f).bind fun g=>cond (!(decide (g < 0))) (some (.inr a.2)) ((idx a.2 (w64 (a.1 - 1))).bind fun b=>(idx a.2 a.1).bind fun h=>(idx a.2 a.1).bind fun _=>(idx (a.2.set a.1.toNat b) (w64 (a.1 - 1))).bind fun _=>some (.inl (w64 (a.1 - 1),(a.2.set a.1.toNat b).set (w64 (a.1 - 1)).toNat h)))) (some (.inr a.2))
noncomputable def q8o (d : Int) (f : qi→qi→Option Int) (b : Int) (a : Int × List qi) : Option ((Int × List qi) ⊕ (Int × List qi)):=
  cond (decide (a.1 < d)) ((idx a.2 a.1).bind fun g=>(idx a.2 (w64 (a.1 - 1))).bind fun h=>(f g h).bind fun j=>cond (!(decide (j < 0))) (some (.inr (b,a.2))) ((idx a.2 (w64 (a.1 - 1))).bind fun c=>(idx a.2 a.1).bind fun k=>(idx a.2 a.1).bind fun _=>(idx (a.2.set a.1.toNat c) (w64 (a.1 - 1))).bind fun _=>some (.inl (w64 (a.1 + 1),(a.2.set a.1.toNat c).set (w64 (a.1 - 1)).toNat k)))) (some (.inr (b,a.2)))
noncomputable def q5y (c : Int) (d : qi→qi→Option Int) (h : Int) (b : Int × Int × List qi) : Option ((Int × Int × List qi) ⊕ ((List qi) ⊕ (Bool × List qi))):=
  cond (decide (b.2.1 < 5)) (((loop (q8m c b d) b.1).bind fun a=>cond (a == c) (some (.inr (true,b.2.2))) (cond (decide ((w64 (c - h)) < 50)) (some (.inr (false,b.2.2))) ((idx b.2.2 (w64 (a - 1))).bind fun f=>(idx b.2.2 a).bind fun j=>(idx b.2.2 a).bind fun _=>(idx (b.2.2.set a.toNat f) (w64 (a - 1))).bind fun _=>(cond (decide ((w64 (a - h)) ≥ 2)) ((loop (q8n d) (w64 (a - 1),(b.2.2.set a.toNat f).set (w64 (a - 1)).toNat j)).bind fun g=>some g) (some ((b.2.2.set a.toNat f).set (w64 (a - 1)).toNat j))).bind fun k=>cond (decide ((w64 (c - a)) ≥ 2)) ((loop (q8o c d a) (w64 (a + 1),k)).bind fun g=>some (.inl g)) (some (.inl (a,k))))) : Option ((Int × List qi) ⊕ (Bool × List qi))).bind fun m=>(match m with | .inl l=>some (.inl (l.1,w64 (b.2.1 + 1),l.2)) | .inr n=>some (.inr (.inr n)))) (some (.inr (.inl b.2.2)))
noncomputable def q5x (b : qi→qi→Option Int) (c : List qi) (a : Int) (d : Int) : Option (Bool × List qi):=
  (loop (q5y d b a) (w64 (a + 1),0,c) : Option ((List qi) ⊕ (Bool × List qi))).bind fun f=>(match f with | .inl g=>some (false,g) | .inr h=>some h)
noncomputable def q8y (b : Int × Int × List qi) (c : Int) (d : qi→qi→Option Int) (a : Int) : Option ((Int) ⊕ (Int)):=
  (cond (decide (a≤b.2.1)) ((idx b.2.2 c).bind fun f=>(idx b.2.2 a).bind fun g=>(d f g).bind fun h=>some (!(decide (h < 0)))) (some false)).bind fun j=>cond j (some (.inl (w64 (a + 1)))) (some (.inr a))
noncomputable def q8z (c : Int) (b : Int × Int × List qi) (d : Int) (f : qi→qi→Option Int) (a : Int) : Option ((Int) ⊕ (Int)):=
  (cond (decide (c≤a)) ((idx b.2.2 d).bind fun g=>(idx b.2.2 a).bind fun h=>(f g h).bind fun j=>some (decide (j < 0))) (some false)).bind fun k=>cond k (some (.inl (w64 (a - 1)))) (some (.inr a))
noncomputable def q8x (d : Int) (f : qi→qi→Option Int) (a : Int × Int × List qi) : Option ((Int × Int × List qi) ⊕ (Int × List qi)):=
  (loop (q8y a d f) a.1).bind fun b=>(loop (q8z b a d f) a.2.1).bind fun c=>cond (decide (b > c)) (some (.inr (b,a.2.2))) ((idx a.2.2 c).bind fun g=>(idx a.2.2 b).bind fun h=>(idx a.2.2 b).bind fun _=>(idx (a.2.2.set b.toNat g) c).bind fun _=>some (.inl (w64 (b + 1),w64 (c - 1),(a.2.2.set b.toNat g).set c.toNat h)))
noncomputable def q8w (g : qi→qi→Option Int) (b : List qi) (a : Int) (h : Int) (c : Int) : Option (Int × List qi):=
  (idx b c).bind fun d=>(idx b a).bind fun j=>(idx b a).bind fun _=>(idx (b.set a.toNat d) c).bind fun _=>(loop (q8x a g) (w64 (a + 1),w64 (h - 1),(b.set a.toNat d).set c.toNat j)).bind fun f=>some (f.1,f.2)
noncomputable def q8r (h : Int) (c : List qi) (b : Int) (d : qi) (f : Int) (g : qi) (j : qi→qi→Option Int) (a : Int) : Option ((Int) ⊕ (Int)):=
  (cond (decide (a≤(w64 (h - 1)))) ((idx ((c.set b.toNat d).set f.toNat g) a).bind fun k=>(idx ((c.set b.toNat d).set f.toNat g) b).bind fun l=>(j k l).bind fun m=>some (decide (m < 0))) (some false)).bind fun n=>cond n (some (.inl (w64 (a + 1)))) (some (.inr a))
noncomputable def q8s (h : Int) (c : List qi) (b : Int) (d : qi) (f : Int) (g : qi) (j : qi→qi→Option Int) (a : Int) : Option ((Int) ⊕ (Int)):=
  (cond (decide (h≤a)) ((idx ((c.set b.toNat d).set f.toNat g) a).bind fun k=>(idx ((c.set b.toNat d).set f.toNat g) b).bind fun l=>(j k l).bind fun m=>some (!(decide (m < 0)))) (some false)).bind fun n=>cond n (some (.inl (w64 (a - 1)))) (some (.inr a))
noncomputable def q8u (b : Int × Int × List qi) (c : Int) (d : qi→qi→Option Int) (a : Int) : Option ((Int) ⊕ (Int)):=
  (cond (decide (a≤b.2.1)) ((idx b.2.2 a).bind fun f=>(idx b.2.2 c).bind fun g=>(d f g).bind fun h=>some (decide (h < 0))) (some false)).bind fun j=>cond j (some (.inl (w64 (a + 1)))) (some (.inr a))
noncomputable def q8v (c : Int) (b : Int × Int × List qi) (d : Int) (f : qi→qi→Option Int) (a : Int) : Option ((Int) ⊕ (Int)):=
  (cond (decide (c≤a)) ((idx b.2.2 a).bind fun g=>(idx b.2.2 d).bind fun h=>(f g h).bind fun j=>some (!(decide (j < 0)))) (some false)).bind fun k=>cond k (some (.inl (w64 (a - 1)))) (some (.inr a))
noncomputable def q8t (d : Int) (f : qi→qi→Option Int) (a : Int × Int × List qi) : Option ((Int × Int × List qi) ⊕ (Int × List qi)):=
  (loop (q8u a d f) a.1).bind fun b=>(loop (q8v b a d f) a.2.1).bind fun c=>cond (decide (b > c)) (some (.inr (c,a.2.2))) ((idx a.2.2 c).bind fun g=>(idx a.2.2 b).bind fun h=>(idx a.2.2 b).bind fun _=>(idx (a.2.2.set b.toNat g) c).bind fun _=>some (.inl (w64 (b + 1),w64 (c - 1),(a.2.2.set b.toNat g).set c.toNat h)))
noncomputable def q8q (k : qi→qi→Option Int) (b : List qi) (a : Int) (l : Int) (c : Int) : Option (Int × Bool × List qi):=
  (idx b c).bind fun d=>(idx b a).bind fun f=>(idx b a).bind fun _=>(idx (b.set a.toNat d) c).bind fun _=>(loop (q8r l b a d c f k) (w64 (a + 1))).bind fun j=>(loop (q8s j b a d c f k) (w64 (l - 1))).bind fun g=>cond (decide (j > g)) ((idx ((b.set a.toNat d).set c.toNat f) a).bind fun m=>(idx ((b.set a.toNat d).set c.toNat f) g).bind fun p=>(idx ((b.set a.toNat d).set c.toNat f) g).bind fun _=>(idx (((b.set a.toNat d).set c.toNat f).set g.toNat m) a).bind fun _=>some (g,true,(((b.set a.toNat d).set c.toNat f).set g.toNat m).set a.toNat p)) ((idx ((b.set a.toNat d).set c.toNat f) g).bind fun n=>(idx ((b.set a.toNat d).set c.toNat f) j).bind fun q=>(idx ((b.set a.toNat d).set c.toNat f) j).bind fun _=>(idx (((b.set a.toNat d).set c.toNat f).set j.toNat n) g).bind fun _=>(loop (q8t a k) (w64 (j + 1),w64 (g - 1),(((b.set a.toNat d).set c.toNat f).set j.toNat n).set g.toNat q)).bind fun h=>(idx h.2 a).bind fun o=>(idx h.2 h.1).bind fun r=>(idx h.2 h.1).bind fun _=>(idx (h.2.set h.1.toNat o) a).bind fun _=>some (h.1,false,(h.2.set h.1.toNat o).set a.toNat r))
noncomputable def q8e (b : Int) (d : Int) (f : Int) (a : Int × List qi × Int) : Option ((Int × List qi × Int) ⊕ (List qi)):=
  cond (decide (a.1≤(w64 ((w64 (b + (w64 ((w64 (Int.tdiv (w64 (d - b)) 4)) * 2)))) + 1)))) ((q1l a.2.2).bind fun c=>(cond (decide ((w64 (andI .u64 c (IntKind.wrap .u64 (f - 1)))) ≥ (w64 (d - b)))) (some (w64 ((w64 (andI .u64 c (IntKind.wrap .u64 (f - 1)))) - (w64 (d - b))))) (some (w64 (andI .u64 c (IntKind.wrap .u64 (f - 1)))))).bind fun g=>(idx a.2.1 (w64 (b + g))).bind fun h=>(idx a.2.1 a.1).bind fun j=>(idx a.2.1 a.1).bind fun _=>(idx (a.2.1.set a.1.toNat h) (w64 (b + g))).bind fun _=>some (.inl (w64 (a.1 + 1),(a.2.1.set a.1.toNat h).set (w64 (b + g)).toNat j,c))) (some (.inr a.2.1))
noncomputable def q8d (g : qi→qi→Option Int) (c : List qi) (a : Int) (b : Int) : Option (List qi):=
  cond (decide ((w64 (b - a)) ≥ 8)) ((q1k (w64 (b - a))).bind fun d=>(loop (q8e a b d) (w64 ((w64 (a + (w64 ((w64 (Int.tdiv (w64 (b - a)) 4)) * 2)))) - 1),c,IntKind.wrap .u64 (w64 (b - a)))).bind fun f=>some f) (some c)
noncomputable def q6c (c : qi→qi→Option Int) (rec : List qi→Int→Int→Int→Option (List qi)) (a : Int × Int × Int × Bool × Bool × List qi) : Option ((Int × Int × Int × Bool × Bool × List qi) ⊕ (List qi)):=
  cond (decide ((w64 (a.2.1 - a.1))≤12)) ((q8j c a.2.2.2.2.2 a.1 a.2.1).bind fun l=>(Qz l.length a.2.2.2.2.2.length).bind fun _=>some (.inr l)) (cond (a.2.2.1 == 0) ((q8g c a.2.2.2.2.2 a.1 a.2.1).bind fun m=>(Qz m.length a.2.2.2.2.2.length).bind fun _=>some (.inr m)) ((cond (!a.2.2.2.1) ((q8d c a.2.2.2.2.2 a.1 a.2.1).bind fun n=>(Qz n.length a.2.2.2.2.2.length).bind fun _=>some (w64 (a.2.2.1 - 1),n)) (some (a.2.2.1,a.2.2.2.2.2))).bind fun d=>(q8f d.2 a.1 a.2.1 c).bind fun h=>(cond (h.2 == 2) ((q90 c d.2 a.1 a.2.1).bind fun o=>(Qz o.length d.2.length).bind fun _=>some (w64 ((w64 (a.2.1 - 1)) - (w64 (h.1 - a.1))),1,o)) (some (h.1,h.2,d.2))).bind fun f=>(cond a.2.2.2.1 (some a.2.2.2.2.1) (some false)).bind fun r=>(cond r (some (f.2.1 == 1)) (some false)).bind fun s=>(cond s ((q5x c f.2.2 a.1 a.2.1).bind fun j=>(Qz j.2.length f.2.2.length).bind fun _=>cond j.1 (some (.inr j.2)) (some (.inl j.2))) (some (.inl f.2.2)) : Option ((List qi) ⊕ (List qi))).bind fun t=>(match t with | .inl g=>(cond (decide (a.1 > 0)) ((idx g (w64 (a.1 - 1))).bind fun u=>(idx g f.1).bind fun v=>(c u v).bind fun x=>some (!(decide (x < 0)))) (some false)).bind fun y=>cond y ((q8w c g a.1 a.2.1 f.1).bind fun k=>(Qz k.2.length g.length).bind fun _=>some (.inl (k.1,a.2.1,d.1,a.2.2.2.1,a.2.2.2.2.1,k.2))) ((q8q c g a.1 a.2.1 f.1).bind fun b=>(Qz b.2.2.length g.length).bind fun _=>cond (decide ((w64 (b.1 - a.1)) < (w64 (a.2.1 - b.1)))) ((rec b.2.2 a.1 b.1 d.1).bind fun p=>(Qz p.length b.2.2.length).bind fun _=>some (.inl (w64 (b.1 + 1),a.2.1,d.1,decide ((w64 (b.1 - a.1)) ≥ (w64 (Int.tdiv (w64 (a.2.1 - a.1)) 8))),b.2.1,p))) ((rec b.2.2 (w64 (b.1 + 1)) a.2.1 d.1).bind fun q=>(Qz q.length b.2.2.length).bind fun _=>some (.inl (a.1,b.1,d.1,decide ((w64 (a.2.1 - b.1)) ≥ (w64 (Int.tdiv (w64 (a.2.1 - a.1)) 8))),b.2.1,q)))) | .inr z=>some (.inr z))))
noncomputable def q6d (rec : List qi→Int→Int→Int→Option (List qi)) (a : qi→qi→Option Int) (b : List qi) (c : Int) (d : Int) (f : Int) : Option (List qi):=
  (loop (q6c a rec) (c,d,f,true,true,b)).bind fun g=>some g
noncomputable def q6b : Nat→(qi→qi→Option Int)→List qi→Int→Int→Int→Option (List qi)
  | 0,_,_,_,_,_=>none
  | n + 1,a,b,c,d,f=>q6d (q6b n a) a b c d f
noncomputable def q5m (c : qi→qi→Option Int) (a : List qi) : Option (List qi):=
  (Uc (IntKind.wrap .u64 (a.length : Int))).bind fun d=>(lim (fun n=>q6b n c a 0 (a.length : Int) d)).bind fun b=>(Qz b.length a.length).bind fun _=>some b
noncomputable def qbi (a : List qi) : Option (List qi):=
  some a
noncomputable def q45 (b : List qo) (c : Int × List qi) (a : Int × List qi) : Option ((Int × List qi) ⊕ (List qi)):=
  cond (decide (a.1 < (b.length : Int))) ((idx b a.1).bind fun d=>(app 24 a.2 [({at_:=d.Lo,list_:=c.1,by_:=1} : qi),({at_:=d.Hi,list_:=c.1,by_:=(-1)} : qi)]).bind fun f=>some (.inl (w64 (a.1 + 1),f))) (some (.inr a.2))
noncomputable def Uk (b : List (List qo)) (a : Int × List qi) : Option ((Int × List qi) ⊕ (List qi)):=
  cond (decide (a.1 < (b.length : Int))) (((idx b a.1).bind fun c=>(loop (q45 c a) (0,a.2)).bind fun d=>some d).bind fun f=>some (.inl (w64 (a.1 + 1),f))) (some (.inr a.2))
noncomputable def q9b (b : List (List qo)) : Option (List (List qo) × List qi):=
  (loop (Uk b) (0,[])).bind fun c=>(q5m (fun f g=>q9a f g) c).bind fun a=>(Qz a.length c.length).bind fun _=>(qbi a).bind fun d=>(Qz d.length a.length).bind fun _=>some (b,d)
noncomputable def q9c (d : Int) (c : Bool) (b : Int) (a : List qo) : Option (Bool × Int × List qo):=
  (cond (!c) (some true) (some (b == d))).bind fun f=>cond f (some (c,b,a)) ((cond (decide ((a.length : Int) > 0)) ((idx a (w64 ((a.length : Int) - 1))).bind fun g=>some (g.Hi == b)) (some false)).bind fun h=>cond h ((idx a (w64 ((a.length : Int) - 1))).bind fun j=>some (c,b,a.set (w64 ((a.length : Int) - 1)).toNat ({Lo:=j.Lo,Hi:=d} : qo))) ((app 16 a [({Lo:=b,Hi:=d} : qo)]).bind fun k=>some (c,b,k)))
noncomputable def q46 (f : List (List qo) × List qi) (g : Bool→Bool→Option Bool) (a : Int × List Int × Int × Bool × List qo) : Option ((Int × List Int × Int × Bool × List qo) ⊕ (List qo)):=
  cond (decide (a.1 < (f.2.length : Int))) ((idx f.2 a.1).bind fun b=>((q9c b.at_ a.2.2.2.1 a.2.2.1 a.2.2.2.2).bind fun h=>(idxA 2 a.2.1 b.list_).bind fun c=>(idxA 2 a.2.1 b.list_).bind fun _=>(idxA 2 (a.2.1.set b.list_.toNat (w64 (c + b.by_))) 0).bind fun j=>(idxA 2 (a.2.1.set b.list_.toNat (w64 (c + b.by_))) 1).bind fun k=>(g (decide (j > 0)) (decide (k > 0))).bind fun l=>some (a.2.1.set b.list_.toNat (w64 (c + b.by_)),l,h.2.2)).bind fun d=>some (.inl (w64 (a.1 + 1),d.1,b.at_,d.2.1,d.2.2))) (some (.inr a.2.2.2.2))
noncomputable def q6m (a : List qo) (b : List qo) (d : Bool→Bool→Option Bool) : Option (List qo):=
  (q9b [a,b]).bind fun c=>(Qz c.1.length [a,b].length).bind fun _=>((loop (q46 c d) (0,[0,0],0,false,[])).bind fun f=>some f).bind fun g=>some g
noncomputable def q99 (a : Bool) (b : Bool) : Option Bool:=
  some a
noncomputable def q6l (a : List qo) : Option (List qo × Int):=
  cond (decide ((a.length : Int) > 400)) (some ([],4)) ((q88 a (fun b=>qbl b)).bind fun c=>cond c (some ([],8)) ((q6m a [] (fun b d=>q99 b d)).bind fun f=>some (f,0)))
noncomputable def qbg (b : List qo) (f : List qo) (a : Int) : Option ((Int) ⊕ ((Unit) ⊕ (Bool))):=
  cond (decide (a < (b.length : Int))) ((idx b a).bind fun c=>(idx f a).bind fun d=>cond (!((c.Lo == d.Lo) && ((c.Hi == d.Hi) && true))) (some (.inr (.inr false))) (some (.inl (w64 (a + 1))))) (some (.inr (.inl ())))
noncomputable def q8a (a : List qo) (b : List qo) : Option Bool:=
  cond ((a.length : Int) != (b.length : Int)) (some false) ((loop (qbg a b) 0 : Option ((Unit) ⊕ (Bool))).bind fun c=>(match c with | .inl _=>some true | .inr d=>some d))
noncomputable def q5g (c : Int) (a : Int × List qq) : Option ((Int × List qq) ⊕ (List qq)):=
  cond (decide (a.1 < (a.2.length : Int))) ((idx a.2 a.1).bind fun b=>some (.inl (w64 (a.1 + 1),a.2.set a.1.toNat ({X0:=b.X0,Y0:=b.Y0,X1:=c,Y1:=b.Y1} : qq)))) (some (.inr a.2))
noncomputable def q5h (b : List qo) (f : Int) (c : Int) (g : List qq) (a : Int × List qq) : Option ((Int × List qq) ⊕ (List qo × Int × Int × List qq)):=
  cond (decide (a.1 < (b.length : Int))) ((idx b a.1).bind fun d=>(app 32 a.2 [({X0:=f,Y0:=d.Lo,X1:=c,Y1:=d.Hi} : qq)]).bind fun h=>some (.inl (w64 (a.1 + 1),h))) (some (.inr (b,(g.length : Int),c,a.2)))
noncomputable def q81 (a : List qq) (d : List qo) (f : Int) (h : Int) (g : Int) (b : Int) (c : List qo) : Option (List qo × Int × Int × List qq):=
  (cond (decide ((c.length : Int) > 0)) (some (h == g)) (some false)).bind fun j=>(cond j ((q8a d c).bind fun k=>some k) (some false)).bind fun l=>cond l ((loop (q5g b) (f,a)).bind fun m=>some (d,f,b,m)) ((loop (q5h c g b a) (0,a)).bind fun n=>some n)
noncomputable def q2f (b : List qq) (a : Int × List Int) : Option ((Int × List Int) ⊕ (List Int)):=
  cond (decide (a.1 < (b.length : Int))) ((idx b a.1).bind fun c=>(app 8 a.2 [c.X0,c.X1]).bind fun d=>some (.inl (w64 (a.1 + 1),d))) (some (.inr a.2))
noncomputable def q3q (c : List qq) (d : Int) (a : Int × List qo) : Option ((Int × List qo) ⊕ (List qo)):=
  cond (decide (a.1 < (c.length : Int))) (((idx c a.1).bind fun b=>(cond (decide (b.X0≤d)) (some (decide (d < b.X1))) (some false)).bind fun f=>cond f ((app 16 a.2 [({Lo:=b.Y0,Hi:=b.Y1} : qo)]).bind fun g=>some g) (some a.2)).bind fun h=>some (.inl (w64 (a.1 + 1),h))) (some (.inr a.2))
noncomputable def q2g (d : List Int) (g : List qq) (a : Int × List qo × Int × Int × List qq) : Option ((Int × List qo × Int × Int × List qq) ⊕ (List qo × Int × Int × List qq)):=
  cond (decide (a.1 < (d.length : Int))) ((idx d (w64 (a.1 - 1))).bind fun f=>(idx d a.1).bind fun h=>((idx [g] 0).bind fun j=>(loop (q3q j f) (0,[])).bind fun k=>some k).bind fun l=>((q6l l).bind fun m=>(q81 a.2.2.2.2 a.2.1 a.2.2.1 a.2.2.2.1 f h m.1).bind fun b=>some (b.1,b.2.1,b.2.2.1,b.2.2.2)).bind fun c=>some (.inl (w64 (a.1 + 1),c.1,c.2.1,c.2.2.1,c.2.2.2))) (some (.inr (a.2.1,a.2.2.1,a.2.2.2.1,a.2.2.2.2)))
noncomputable def q82 (d : List qq) : Option (List qq × Int):=
  (((idx [d] 0).bind fun j=>(loop (q2f j) (0,[])).bind fun b=>some b).bind fun f=>(Uj f).bind fun c=>(Qz c.length f.length).bind fun _=>(q2k c).bind fun a=>(Qz a.2.length c.length).bind fun _=>(q2s a.2.length a.1).bind fun _=>some ((a.2.drop a.1.1).take a.1.2)).bind fun k=>((loop (q2g k d) (1,[],0,0,[])).bind fun b=>some b).bind fun g=>(cond (decide ((g.2.2.2.length : Int) > 400)) (some (4,[])) (some (0,g.2.2.2))).bind fun h=>some (h.2,h.1)
noncomputable def q5f (a : List qq) : Option (List qq × Int):=
  cond (decide ((a.length : Int) > 400)) (some ([],4)) ((q87 a (fun c=>q2d c)).bind fun d=>cond d (some ([],8)) ((q82 a).bind fun b=>some (b.1,b.2)))
noncomputable def qbe (d : List qq) (f : List qq) (a : Int) : Option ((Int) ⊕ ((Unit) ⊕ (Bool))):=
  cond (decide (a < (d.length : Int))) ((idx d a).bind fun b=>(idx f a).bind fun c=>cond (!((b.X0 == c.X0) && ((b.Y0 == c.Y0) && ((b.X1 == c.X1) && ((b.Y1 == c.Y1) && true))))) (some (.inr (.inr false))) (some (.inl (w64 (a + 1))))) (some (.inr (.inl ())))
noncomputable def q89 (a : List qq) (b : List qq) : Option Bool:=
  cond ((a.length : Int) != (b.length : Int)) (some false) ((loop (qbe a b) 0 : Option ((Unit) ⊕ (Bool))).bind fun c=>(match c with | .inl _=>some true | .inr d=>some d))
noncomputable def q6i (c : Int) (a : Int × List qj) : Option ((Int × List qj) ⊕ (List qj)):=
  cond (decide (a.1 < (a.2.length : Int))) ((idx a.2 a.1).bind fun b=>some (.inl (w64 (a.1 + 1),a.2.set a.1.toNat ({Lo:=b.Lo,Hi:=({X:=b.Hi.X,Y:=b.Hi.Y,Z:=c} : Q4)} : qj)))) (some (.inr a.2))
noncomputable def q6j (c : List qq) (f : Int) (d : Int) (g : List qj) (a : Int × List qj) : Option ((Int × List qj) ⊕ (List qq × Int × Int × List qj)):=
  cond (decide (a.1 < (c.length : Int))) ((idx c a.1).bind fun b=>(app 48 a.2 [({Lo:=({X:=b.X0,Y:=b.Y0,Z:=f} : Q4),Hi:=({X:=b.X1,Y:=b.Y1,Z:=d} : Q4)} : qj)]).bind fun h=>some (.inl (w64 (a.1 + 1),h))) (some (.inr (c,(g.length : Int),d,a.2)))
noncomputable def q95 (a : List qj) (d : List qq) (f : Int) (h : Int) (g : Int) (b : Int) (c : List qq) : Option (List qq × Int × Int × List qj):=
  (cond (decide ((c.length : Int) > 0)) (some (h == g)) (some false)).bind fun j=>(cond j ((q89 d c).bind fun k=>some k) (some false)).bind fun l=>cond l ((loop (q6i b) (f,a)).bind fun m=>some (d,f,b,m)) ((loop (q6j c g b a) (0,a)).bind fun n=>some n)
noncomputable def q41 (b : List qj) (a : Int × List Int) : Option ((Int × List Int) ⊕ (List Int)):=
  cond (decide (a.1 < (b.length : Int))) ((idx b a.1).bind fun c=>(app 8 a.2 [c.Lo.Z,c.Hi.Z]).bind fun d=>some (.inl (w64 (a.1 + 1),d))) (some (.inr a.2))
noncomputable def q43 (c : List qj) (d : Int) (a : Int × List qq) : Option ((Int × List qq) ⊕ (List qq)):=
  cond (decide (a.1 < (c.length : Int))) (((idx c a.1).bind fun b=>(cond (decide (b.Lo.Z≤d)) (some (decide (d < b.Hi.Z))) (some false)).bind fun f=>cond f ((app 32 a.2 [({X0:=b.Lo.X,Y0:=b.Lo.Y,X1:=b.Hi.X,Y1:=b.Hi.Y} : qq)]).bind fun g=>some g) (some a.2)).bind fun h=>some (.inl (w64 (a.1 + 1),h))) (some (.inr a.2))
noncomputable def q42 (d : List Int) (h : List qj) (a : Int × List qq × Int × Int × List qj) : Option ((Int × List qq × Int × Int × List qj) ⊕ ((List qq × Int × Int × List qj) ⊕ (List qj × Int))):=
  cond (decide (a.1 < (d.length : Int))) ((idx d (w64 (a.1 - 1))).bind fun g=>(idx d a.1).bind fun j=>((idx [h] 0).bind fun k=>(loop (q43 k g) (0,[])).bind fun l=>some l).bind fun m=>((q5f m).bind fun f=>cond (f.2 != 0) (some (.inr ([],f.2))) ((q95 a.2.2.2.2 a.2.1 a.2.2.1 a.2.2.2.1 g j f.1).bind fun b=>some (.inl (b.1,b.2.1,b.2.2.1,b.2.2.2))) : Option ((List qq × Int × Int × List qj) ⊕ (List qj × Int))).bind fun n=>(match n with | .inl c=>some (.inl (w64 (a.1 + 1),c.1,c.2.1,c.2.2.1,c.2.2.2)) | .inr o=>some (.inr (.inr o)))) (some (.inr (.inl (a.2.1,a.2.2.1,a.2.2.2.1,a.2.2.2.2))))
noncomputable def q97 (f : List qj) : Option (List qj × Int):=
  (((idx [f] 0).bind fun j=>(loop (q41 j) (0,[])).bind fun b=>some b).bind fun g=>(Uj g).bind fun c=>(Qz c.length g.length).bind fun _=>(q2k c).bind fun a=>(Qz a.2.length c.length).bind fun _=>(q2s a.2.length a.1).bind fun _=>some ((a.2.drop a.1.1).take a.1.2)).bind fun k=>((loop (q42 k f) (1,[],0,0,[]) : Option ((List qq × Int × Int × List qj) ⊕ (List qj × Int))).bind fun l=>(match l with | .inl b=>some (.inl b) | .inr d=>some (.inr d)) : Option ((List qq × Int × Int × List qj) ⊕ (List qj × Int))).bind fun m=>(match m with | .inl h=>cond (decide ((h.2.2.2.length : Int) > 400)) (some ([],4)) (some (h.2.2.2,0)) | .inr d=>some d)
noncomputable def qee (d : List qj) (f : List qj) (c : Int) : Option ((Int) ⊕ ((Unit) ⊕ (Bool))):=
  cond (decide (c < (d.length : Int))) ((idx d c).bind fun a=>(idx f c).bind fun b=>cond (!((a.Lo.X == b.Lo.X) && ((a.Lo.Y == b.Lo.Y) && ((a.Lo.Z == b.Lo.Z) && ((a.Hi.X == b.Hi.X) && ((a.Hi.Y == b.Hi.Y) && ((a.Hi.Z == b.Hi.Z) && true))))))) (some (.inr (.inr false))) (some (.inl (w64 (c + 1))))) (some (.inr (.inl ())))
noncomputable def qbf (a : List qj) (b : List qj) : Option Bool:=
  cond ((a.length : Int) != (b.length : Int)) (some false) ((loop (qee a b) 0 : Option ((Unit) ⊕ (Bool))).bind fun c=>(match c with | .inl _=>some true | .inr d=>some d))
noncomputable def q94 (a : List qj) : Option Int:=
  cond (decide ((a.length : Int) > 400)) (some 4) ((q1j a (fun c=>q2o c)).bind fun d=>cond d (some 8) ((q97 a).bind fun b=>(cond (b.2 != 0) (some true) ((qbf b.1 a).bind fun f=>some (!f))).bind fun g=>cond g (some 8) (some 0)))
noncomputable def q2q (a : Q4) (b : Int) : Option Bool:=
  (cond (decide ((min (min a.X a.Y) a.Z) ≥ (w64 (0 - b)))) (some (decide ((max (max a.X a.Y) a.Z)≤b))) (some false)).bind fun c=>some c
noncomputable def q6p (a : qj) : Option Bool:=
  (q2q a.Lo 30).bind fun b=>(cond (!b) (some true) ((q2q a.Hi 30).bind fun c=>some (!c))).bind fun d=>some d
noncomputable def q6o (b : List qj) (a : Q4) : Option Int:=
  (q94 b).bind fun c=>cond (c != 0) (some c) ((q1j b (fun d=>q6p d)).bind fun f=>cond f (some 16) ((q2q a 8).bind fun g=>(cond (!g) (some true) (some ((a.X == 0) && ((a.Y == 0) && ((a.Z == 0) && true))))).bind fun h=>cond h (some 2) (some 0)))
def K3 (x : Q4) : List DV:=[.int .i64 x.X,.int .i64 x.Y,.int .i64 x.Z]
structure Ym where
  p_ : Q4
  d_ : Q4
  deriving DecidableEq
structure Kr where
  num_ : Int
  den_ : Int
  deriving DecidableEq
noncomputable def Ul (a : Q4) : Option (Int × Int × Int):=
  some (a.X,a.Y,a.Z)
noncomputable def q2r (a : Kr) (b : Kr) : Option Bool:=
  some (decide ((w64 (a.num_ * b.den_)) < (w64 (b.num_ * a.den_))))
noncomputable def Um (h : (Int × Int × Int)) (j : (Int × Int × Int)) (c : (Int × Int × Int)) (k : (Int × Int × Int)) (a : Bool × Int × Int × Int × Int × Int) : Option ((Bool × Int × Int × Int × Int × Int) ⊕ ((Int × Int × Int × Int) ⊕ (Kr × Bool))):=
  cond (decide (a.2.1 < 3)) (((idxA 3 [h.1,h.2.1,h.2.2] a.2.1).bind fun f=>(idxA 3 [j.1,j.2.1,j.2.2] a.2.1).bind fun l=>(idxA 3 [c.1,c.2.1,c.2.2] a.2.1).bind fun m=>(idxA 3 [k.1,k.2.1,k.2.2] a.2.1).bind fun n=>(idxA 3 [c.1,c.2.1,c.2.2] a.2.1).bind fun o=>cond (f == 0) ((cond (decide ((w64 ((w64 (2 * l)) - m)) ≥ 0)) (some true) (some (decide ((w64 ((w64 (2 * n)) - o))≤0)))).bind fun p=>cond p (some (.inr (({num_:=0,den_:=0} : Kr),false))) (some (.inl (a.1,a.2.2.1,a.2.2.2.1,a.2.2.2.2.1,a.2.2.2.2.2)))) ((cond (decide (f < 0)) (some (w64 (0 - f),w64 (0 - (w64 ((w64 (2 * n)) - o))),w64 (0 - (w64 ((w64 (2 * l)) - m))))) (some (f,w64 ((w64 (2 * l)) - m),w64 ((w64 (2 * n)) - o)))).bind fun b=>(q2r ({num_:=a.2.2.1,den_:=a.2.2.2.1} : Kr) ({num_:=b.2.1,den_:=w64 (2 * b.1)} : Kr)).bind fun q=>(cond q (some (b.2.1,w64 (2 * b.1))) (some (a.2.2.1,a.2.2.2.1))).bind fun g=>(cond a.1 (some true) ((q2r ({num_:=b.2.2,den_:=w64 (2 * b.1)} : Kr) ({num_:=a.2.2.2.2.1,den_:=a.2.2.2.2.2} : Kr)).bind fun r=>some r)).bind fun s=>cond s (some (.inl (false,g.1,g.2,b.2.2,w64 (2 * b.1)))) (some (.inl (a.1,g.1,g.2,a.2.2.2.2.1,a.2.2.2.2.2)))) : Option ((Bool × Int × Int × Int × Int) ⊕ (Kr × Bool))).bind fun t=>(match t with | .inl d=>some (.inl (d.1,w64 (a.2.1 + 1),d.2.1,d.2.2.1,d.2.2.2.1,d.2.2.2.2)) | .inr u=>some (.inr (.inr u)))) (some (.inr (.inl (a.2.2.1,a.2.2.2.1,a.2.2.2.2.1,a.2.2.2.2.2))))
noncomputable def q6s (b : Ym) (c : qj) : Option (Kr × Bool):=
  (Ul b.p_).bind fun d=>(Ul c.Lo).bind fun f=>(Ul c.Hi).bind fun g=>(Ul b.d_).bind fun h=>(loop (Um h f d g) (true,0,0,1,0,0) : Option ((Int × Int × Int × Int) ⊕ (Kr × Bool))).bind fun j=>(match j with | .inl a=>(q2r ({num_:=a.1,den_:=a.2.1} : Kr) ({num_:=a.2.2.1,den_:=a.2.2.2} : Kr)).bind fun k=>some (({num_:=a.1,den_:=a.2.1} : Kr),k) | .inr l=>some l)
noncomputable def q6r (a : qj) (b : Ym) : Option Bool:=
  (q6s b a).bind fun c=>some c.2
noncomputable def q9k (a : Ym) (b : List qj) : Option Bool:=
  (q1j b (fun c=>q6r c a)).bind fun d=>some (!d)
noncomputable def q4y (a : Q4) (b : Int) : Option Bool:=
  (cond (decide (a.X ≥ b)) (some (decide (a.Y ≥ b))) (some false)).bind fun c=>(cond c (some (decide (a.Z ≥ b))) (some false)).bind fun d=>(cond d (some (decide (a.X≤1000000))) (some false)).bind fun f=>(cond f (some (decide (a.Y≤1000000))) (some false)).bind fun g=>(cond g (some (decide (a.Z≤1000000))) (some false)).bind fun h=>some h
noncomputable def q7r (a : qj) : Option Bool:=
  (q4y a.Lo (-1000000)).bind fun b=>(cond b ((q4y a.Hi (-1000000)).bind fun c=>some c) (some false)).bind fun d=>(cond d (some (decide (a.Lo.X < a.Hi.X))) (some false)).bind fun f=>(cond f (some (decide (a.Lo.Y < a.Hi.Y))) (some false)).bind fun g=>(cond g (some (decide (a.Lo.Z < a.Hi.Z))) (some false)).bind fun h=>some h
noncomputable def q3f (b : Int × List Int) (c : List Int) (a : Int) : Option ((Int) ⊕ (Int)):=
  (cond (decide (a > 0)) ((idx b.2 (w64 (a - 1))).bind fun d=>(idx c b.1).bind fun f=>some (decide (d > f))) (some false)).bind fun g=>cond g (some (.inl (w64 (a - 1)))) (some (.inr a))
noncomputable def q3e (d : List Int) (a : Int × List Int) : Option ((Int × List Int) ⊕ (List Int)):=
  cond (decide (a.1 < (d.length : Int))) (((loop (q3f a d) (a.2.length : Int)).bind fun c=>(cond (decide (c > 0)) ((idx a.2 (w64 (c - 1))).bind fun h=>(idx d a.1).bind fun j=>some (h == j)) (some false)).bind fun k=>cond k (some a.2) ((app 8 a.2 [0]).bind fun b=>(sub2 b.length (w64 (c + 1)) b.length).bind fun g=>(sub2 b.length c b.length).bind fun f=>(idx d a.1).bind fun l=>(idx (cpyw b g ((b.drop f.1).take f.2)) c).bind fun _=>some ((cpyw b g ((b.drop f.1).take f.2)).set c.toNat l))).bind fun m=>some (.inl (w64 (a.1 + 1),m))) (some (.inr a.2))
noncomputable def Jh (a : List Int) : Option (List Int):=
  (loop (q3e a) (0,[])).bind fun b=>some b
noncomputable def q3m (b : List qj) (a : Int × List Int) : Option ((Int × List Int) ⊕ (List Int)):=
  cond (decide (a.1 < (b.length : Int))) ((idx b a.1).bind fun c=>(idx b a.1).bind fun d=>(app 8 a.2 [c.Lo.Z,d.Hi.Z]).bind fun f=>some (.inl (w64 (a.1 + 1),f))) (some (.inr a.2))
noncomputable def q3n (b : List qj) (a : Int × List Int) : Option ((Int × List Int) ⊕ (List Int)):=
  cond (decide (a.1 < (b.length : Int))) ((idx b a.1).bind fun c=>(idx b a.1).bind fun d=>(app 8 a.2 [c.Lo.Z,d.Hi.Z]).bind fun f=>some (.inl (w64 (a.1 + 1),f))) (some (.inr a.2))
noncomputable def q7q (a : List qj) (b : List qj) : Option (List Int):=
  (loop (q3m a) (0,[])).bind fun c=>(loop (q3n b) (0,c)).bind fun d=>(Jh d).bind fun f=>some f
noncomputable def q4z (b : List qj) (c : Int) (a : Int × List qq) : Option ((Int × List qq) ⊕ (List qq)):=
  cond (decide (a.1 < (b.length : Int))) (((idx b a.1).bind fun d=>(cond (decide (d.Lo.Z≤c)) ((idx b a.1).bind fun f=>some (decide (c < f.Hi.Z))) (some false)).bind fun g=>cond g ((idx b a.1).bind fun h=>(idx b a.1).bind fun j=>(idx b a.1).bind fun k=>(idx b a.1).bind fun l=>(app 32 a.2 [({X0:=h.Lo.X,Y0:=j.Lo.Y,X1:=k.Hi.X,Y1:=l.Hi.Y} : qq)]).bind fun m=>some m) (some a.2)).bind fun n=>some (.inl (w64 (a.1 + 1),n))) (some (.inr a.2))
noncomputable def Ji (a : List qj) (b : Int) : Option (List qq):=
  (loop (q4z a b) (0,[])).bind fun c=>some c
noncomputable def q3i (b : List qq) (a : Int × List Int) : Option ((Int × List Int) ⊕ (List Int)):=
  cond (decide (a.1 < (b.length : Int))) ((idx b a.1).bind fun c=>(idx b a.1).bind fun d=>(app 8 a.2 [c.X0,d.X1]).bind fun f=>some (.inl (w64 (a.1 + 1),f))) (some (.inr a.2))
noncomputable def q3j (b : List qq) (a : Int × List Int) : Option ((Int × List Int) ⊕ (List Int)):=
  cond (decide (a.1 < (b.length : Int))) ((idx b a.1).bind fun c=>(idx b a.1).bind fun d=>(app 8 a.2 [c.X0,d.X1]).bind fun f=>some (.inl (w64 (a.1 + 1),f))) (some (.inr a.2))
noncomputable def q7o (a : List qq) (b : List qq) : Option (List Int):=
  (loop (q3i a) (0,[])).bind fun c=>(loop (q3j b) (0,c)).bind fun d=>(Jh d).bind fun f=>some f
noncomputable def q3k (b : List qq) (a : Int × List Int) : Option ((Int × List Int) ⊕ (List Int)):=
  cond (decide (a.1 < (b.length : Int))) ((idx b a.1).bind fun c=>(idx b a.1).bind fun d=>(app 8 a.2 [c.Y0,d.Y1]).bind fun f=>some (.inl (w64 (a.1 + 1),f))) (some (.inr a.2))
noncomputable def q3l (b : List qq) (a : Int × List Int) : Option ((Int × List Int) ⊕ (List Int)):=
  cond (decide (a.1 < (b.length : Int))) ((idx b a.1).bind fun c=>(idx b a.1).bind fun d=>(app 8 a.2 [c.Y0,d.Y1]).bind fun f=>some (.inl (w64 (a.1 + 1),f))) (some (.inr a.2))
noncomputable def q7p (a : List qq) (b : List qq) : Option (List Int):=
  (loop (q3k a) (0,[])).bind fun c=>(loop (q3l b) (0,c)).bind fun d=>(Jh d).bind fun f=>some f
noncomputable def q28 (b : List qq) (c : Int) (d : Int) (a : Int) : Option ((Int) ⊕ ((Unit) ⊕ (Bool))):=
  cond (decide (a < (b.length : Int))) ((idx b a).bind fun f=>(cond (decide (f.X0≤c)) ((idx b a).bind fun g=>some (decide (c < g.X1))) (some false)).bind fun h=>(cond h ((idx b a).bind fun j=>some (decide (j.Y0≤d))) (some false)).bind fun k=>(cond k ((idx b a).bind fun l=>some (decide (d < l.Y1))) (some false)).bind fun m=>cond m (some (.inr (.inr true))) (some (.inl (w64 (a + 1))))) (some (.inr (.inl ())))
noncomputable def q4u (a : List qq) (b : Int) (c : Int) : Option Bool:=
  (loop (q28 a b c) 0 : Option ((Unit) ⊕ (Bool))).bind fun d=>(match d with | .inl _=>some false | .inr f=>some f)
noncomputable def q4s (c : Int) (a : Bool) (b : Bool) : Option Bool:=
  cond (c == 1) ((cond a (some b) (some false)).bind fun d=>some d) (cond (c == 2) ((cond a (some true) (some b)).bind fun f=>some f) ((cond a (some (!b)) (some false)).bind fun g=>some g))
noncomputable def q3d (b : List Int) (c : List Bool) (a : Int × List qo) : Option ((Int × List qo) ⊕ (List qo)):=
  cond (decide ((w64 (a.1 + 1)) < (b.length : Int))) (((idx c a.1).bind fun d=>cond (!d) (some a.2) ((cond (decide ((a.2.length : Int) > 0)) ((idx a.2 (w64 ((a.2.length : Int) - 1))).bind fun f=>(idx b a.1).bind fun g=>some (f.Hi == g)) (some false)).bind fun h=>cond h ((idx b (w64 (a.1 + 1))).bind fun j=>(idx a.2 (w64 ((a.2.length : Int) - 1))).bind fun k=>some (a.2.set (w64 ((a.2.length : Int) - 1)).toNat ({Lo:=k.Lo,Hi:=j} : qo))) ((idx b a.1).bind fun l=>(idx b (w64 (a.1 + 1))).bind fun m=>(app 16 a.2 [({Lo:=l,Hi:=m} : qo)]).bind fun n=>some n))).bind fun o=>some (.inl (w64 (a.1 + 1),o))) (some (.inr a.2))
noncomputable def q3c (a : List Int) (b : List Bool) : Option (List qo):=
  (loop (q3d a b) (0,[])).bind fun c=>some c
noncomputable def qay (b : List qo) (f : List qo) (a : Int) : Option ((Int) ⊕ ((Unit) ⊕ (Bool))):=
  cond (decide (a < (b.length : Int))) ((idx b a).bind fun c=>(idx f a).bind fun d=>cond (!((c.Lo == d.Lo) && ((c.Hi == d.Hi) && true))) (some (.inr (.inr false))) (some (.inl (w64 (a + 1))))) (some (.inr (.inl ())))
noncomputable def q4t (a : List qo) (b : List qo) : Option Bool:=
  cond ((a.length : Int) != (b.length : Int)) (some false) ((loop (qay a b) 0 : Option ((Unit) ⊕ (Bool))).bind fun c=>(match c with | .inl _=>some true | .inr d=>some d))
noncomputable def q3g (b : List Int) (c : List Int) (d : List qo × Int × Int × List qq) (f : List qq) (g : List qq) (h : Int) (a : Int × List Bool) : Option ((Int × List Bool) ⊕ (List Bool)):=
  cond (decide (a.1 < (b.length : Int))) ((idx c d.2.2.1).bind fun j=>(idx b a.1).bind fun k=>(q4u f j k).bind fun l=>(idx c d.2.2.1).bind fun m=>(idx b a.1).bind fun n=>(q4u g m n).bind fun o=>(q4s h l o).bind fun p=>(app 1 a.2 [p]).bind fun q=>some (.inl (w64 (a.1 + 1),q))) (some (.inr a.2))
noncomputable def q3h (c : List Int) (d : List qo × Int × Int × List qq) (a : Int × List qq) : Option ((Int × List qq) ⊕ (List qq)):=
  cond (decide (a.1 < (a.2.length : Int))) ((idx c (w64 (d.2.2.1 + 1))).bind fun f=>(idx a.2 a.1).bind fun b=>some (.inl (w64 (a.1 + 1),a.2.set a.1.toNat ({X0:=b.X0,Y0:=b.Y0,X1:=f,Y1:=b.Y1} : qq)))) (some (.inr a.2))
noncomputable def q4v (b : List qo) (d : List Int) (c : List qo × Int × Int × List qq) (a : Int × List qq) : Option ((Int × List qq) ⊕ (List qo × Int × List qq)):=
  cond (decide (a.1 < (b.length : Int))) ((idx d c.2.2.1).bind fun f=>(idx b a.1).bind fun g=>(idx d (w64 (c.2.2.1 + 1))).bind fun h=>(idx b a.1).bind fun j=>(app 32 a.2 [({X0:=f,Y0:=g.Lo,X1:=h,Y1:=j.Hi} : qq)]).bind fun k=>some (.inl (w64 (a.1 + 1),k))) (some (.inr (b,(c.2.2.2.length : Int),a.2)))
noncomputable def q29 (b : List Int) (d : List Int) (g : List qq) (h : List qq) (j : Int) (a : List qo × Int × Int × List qq) : Option ((List qo × Int × Int × List qq) ⊕ (List qq)):=
  cond (decide ((w64 (a.2.2.1 + 1)) < (b.length : Int))) (((loop (q3g d b a g h j) (0,[])).bind fun k=>(q3c d k).bind fun f=>(cond (decide (a.2.2.1 > 0)) ((q4t f a.1).bind fun l=>some l) (some false)).bind fun m=>cond m ((loop (q3h b a) (a.2.1,a.2.2.2)).bind fun n=>some (a.1,a.2.1,n)) ((loop (q4v f b a) (0,a.2.2.2)).bind fun o=>some o)).bind fun c=>some (.inl (c.1,c.2.1,w64 (a.2.2.1 + 1),c.2.2))) (some (.inr a.2.2.2))
noncomputable def Zz (c : Int) (a : List qq) (b : List qq) : Option (List qq):=
  (q7o a b).bind fun d=>(q7p a b).bind fun f=>(loop (q29 d f a b c) ([],0,0,[])).bind fun g=>some g
noncomputable def qaz (d : List qq) (f : List qq) (a : Int) : Option ((Int) ⊕ ((Unit) ⊕ (Bool))):=
  cond (decide (a < (d.length : Int))) ((idx d a).bind fun b=>(idx f a).bind fun c=>cond (!((b.X0 == c.X0) && ((b.Y0 == c.Y0) && ((b.X1 == c.X1) && ((b.Y1 == c.Y1) && true))))) (some (.inr (.inr false))) (some (.inl (w64 (a + 1))))) (some (.inr (.inl ())))
noncomputable def q4x (a : List qq) (b : List qq) : Option Bool:=
  cond ((a.length : Int) != (b.length : Int)) (some false) ((loop (qaz a b) 0 : Option ((Unit) ⊕ (Bool))).bind fun c=>(match c with | .inl _=>some true | .inr d=>some d))
noncomputable def q3p (c : List Int) (d : List qq × Int × Int × List qj) (a : Int × List qj) : Option ((Int × List qj) ⊕ (List qj)):=
  cond (decide (a.1 < (a.2.length : Int))) ((idx c (w64 (d.2.2.1 + 1))).bind fun f=>(idx a.2 a.1).bind fun b=>some (.inl (w64 (a.1 + 1),a.2.set a.1.toNat ({Lo:=b.Lo,Hi:=({X:=b.Hi.X,Y:=b.Hi.Y,Z:=f} : Q4)} : qj)))) (some (.inr a.2))
noncomputable def q52 (b : List qq) (d : List Int) (c : List qq × Int × Int × List qj) (a : Int × List qj) : Option ((Int × List qj) ⊕ (List qq × Int × List qj)):=
  cond (decide (a.1 < (b.length : Int))) ((idx b a.1).bind fun f=>(idx b a.1).bind fun g=>(idx d c.2.2.1).bind fun h=>(idx b a.1).bind fun j=>(idx b a.1).bind fun k=>(idx d (w64 (c.2.2.1 + 1))).bind fun l=>(app 48 a.2 [({Lo:=({X:=f.X0,Y:=g.Y0,Z:=h} : Q4),Hi:=({X:=j.X1,Y:=k.Y1,Z:=l} : Q4)} : qj)]).bind fun m=>some (.inl (w64 (a.1 + 1),m))) (some (.inr (b,(c.2.2.2.length : Int),a.2)))
noncomputable def q1e (b : List Int) (f : List qj) (g : List qj) (h : Int) (a : List qq × Int × Int × List qj) : Option ((List qq × Int × Int × List qj) ⊕ ((List qj) ⊕ (List qj × Bool))):=
  cond (decide ((w64 (a.2.2.1 + 1)) < (b.length : Int))) (((idx b a.2.2.1).bind fun j=>(Ji f j).bind fun k=>(idx b a.2.2.1).bind fun l=>(Ji g l).bind fun m=>(Zz h k m).bind fun c=>(cond (decide ((c.length : Int) > 400)) (some true) ((idx b a.2.2.1).bind fun n=>(Ji f n).bind fun o=>(Zz 2 o []).bind fun p=>some (decide ((p.length : Int) > 400)))).bind fun q=>(cond q (some true) ((idx b a.2.2.1).bind fun r=>(Ji g r).bind fun s=>(Zz 2 s []).bind fun t=>some (decide ((t.length : Int) > 400)))).bind fun u=>cond u (some (.inr ([],false))) ((cond (decide (a.2.2.1 > 0)) ((q4x c a.1).bind fun v=>some v) (some false)).bind fun x=>cond x ((loop (q3p b a) (a.2.1,a.2.2.2)).bind fun y=>some (.inl (a.1,a.2.1,y))) ((loop (q52 c b a) (0,a.2.2.2)).bind fun z=>some (.inl z))) : Option ((List qq × Int × List qj) ⊕ (List qj × Bool))).bind fun aa=>(match aa with | .inl d=>some (.inl (d.1,d.2.1,w64 (a.2.2.1 + 1),d.2.2)) | .inr x1=>some (.inr (.inr x1)))) (some (.inr (.inl a.2.2.2)))
noncomputable def q3o (d : Int) (a : List qj) (b : List qj) : Option (List qj × Bool):=
  (q7q a b).bind fun f=>(loop (q1e f a b d) ([],0,0,[]) : Option ((List qj) ⊕ (List qj × Bool))).bind fun g=>(match g with | .inl c=>some (c,decide ((c.length : Int)≤400)) | .inr h=>some h)
noncomputable def qb3 (d : List qj) (f : List qj) (c : Int) : Option ((Int) ⊕ ((Unit) ⊕ (Bool))):=
  cond (decide (c < (d.length : Int))) ((idx d c).bind fun a=>(idx f c).bind fun b=>cond (!((a.Lo.X == b.Lo.X) && ((a.Lo.Y == b.Lo.Y) && ((a.Lo.Z == b.Lo.Z) && ((a.Hi.X == b.Hi.X) && ((a.Hi.Y == b.Hi.Y) && ((a.Hi.Z == b.Hi.Z) && true))))))) (some (.inr (.inr false))) (some (.inl (w64 (c + 1))))) (some (.inr (.inl ())))
noncomputable def qb2 (a : List qj) (b : List qj) : Option Bool:=
  cond ((a.length : Int) != (b.length : Int)) (some false) ((loop (qb3 a b) 0 : Option ((Unit) ⊕ (Bool))).bind fun c=>(match c with | .inl _=>some true | .inr d=>some d))
noncomputable def q51 (b : List qj) (a : Int) : Option ((Int) ⊕ ((Unit) ⊕ (Int))):=
  cond (decide (a < (b.length : Int))) ((idx b a).bind fun c=>(q7r c).bind fun d=>cond (!d) (some (.inr (.inr 8))) (some (.inl (w64 (a + 1))))) (some (.inr (.inl ())))
noncomputable def q50 (a : List qj) : Option Int:=
  cond (decide ((a.length : Int) > 400)) (some 4) ((loop (q51 a) 0 : Option ((Unit) ⊕ (Int))).bind fun c=>(match c with | .inl _=>(q3o 2 a []).bind fun b=>(cond (!b.2) (some true) ((qb2 b.1 a).bind fun d=>some (!d))).bind fun f=>cond f (some 8) (some 0) | .inr g=>some g))
noncomputable def q54 (b : List qj) (a : Int) : Option ((Int) ⊕ ((Unit) ⊕ (Int))):=
  cond (decide (a < (b.length : Int))) ((idx b a).bind fun c=>(Uf c.Lo 30).bind fun d=>(cond (!d) (some true) ((idx b a).bind fun f=>(Uf f.Hi 30).bind fun g=>some (!g))).bind fun h=>cond h (some (.inr (.inr 16))) (some (.inl (w64 (a + 1))))) (some (.inr (.inl ())))
noncomputable def q2a (b : List qj) (a : Q4) : Option Int:=
  (q50 b).bind fun c=>cond (c != 0) ((q50 b).bind fun d=>some d) ((loop (q54 b) 0 : Option ((Unit) ⊕ (Int))).bind fun f=>(match f with | .inl _=>(Uf a 8).bind fun g=>(cond (!g) (some true) ((cond (a.X == 0) (some (a.Y == 0)) (some false)).bind fun h=>(cond h (some (a.Z == 0)) (some false)).bind fun j=>some j)).bind fun k=>cond k (some 2) (some 0) | .inr l=>some l))
structure Ql where
  Num : Int
  Den : Int
  deriving DecidableEq
noncomputable def q4r (a : Int × Int) : Option ((Int × Int) ⊕ (Int)):=
  cond (a.2 != 0) ((qba a.1 a.2).bind fun b=>some (.inl (a.2,b))) (some (.inr a.1))
noncomputable def q3b (b : Int) (c : Int) : Option Int:=
  (loop q4r (b,c)).bind fun a=>cond (decide (a < 0)) (some (w64 (0 - a))) (some a)
noncomputable def q1d (a : Ql) : Option Int:=
  (cond (decide (a.Den < 1)) (some true) (some (decide (a.Den > 1000000000)))).bind fun b=>(cond b (some true) (some (decide (a.Num < (-1000000000))))).bind fun c=>(cond c (some true) (some (decide (a.Num > 1000000000)))).bind fun d=>(cond d (some true) ((q3b a.Num a.Den).bind fun f=>some (f != 1))).bind fun g=>cond g (some 8) (some 0)
noncomputable def q3a (b : Int) (a : Int) : Option (Ql × Int):=
  cond (a == 0) (some (({Num:=0,Den:=0} : Ql),18)) ((cond (b == (-9223372036854775808)) (some (a == (-9223372036854775808))) (some false)).bind fun h=>cond h (some (({Num:=1,Den:=1} : Ql),0)) ((cond (b == (-9223372036854775808)) (some true) (some (a == (-9223372036854775808)))).bind fun j=>cond j ((cond ((Int.tmod b 2) == 0) (some ((Int.tmod a 2) == 0)) (some false)).bind fun k=>cond k none (some (({Num:=0,Den:=0} : Ql),16))) ((cond (decide (a < 0)) (some (w64 (0 - b),w64 (0 - a))) (some (b,a))).bind fun c=>(q3b c.1 c.2).bind fun d=>(q1c c.1 d).bind fun f=>(q1c c.2 d).bind fun g=>(q1d ({Num:=f,Den:=g} : Ql)).bind fun l=>cond (l != 0) (some (({Num:=0,Den:=0} : Ql),16)) (some (({Num:=f,Den:=g} : Ql),0)))))
noncomputable def q2c (a : Int) (b : Int) : Option Ql:=
  (q3a a b).bind fun c=>some c.1
def Kl (x : Ql) : List DV:=[.int .i64 x.Num,.int .i64 x.Den]
noncomputable def Kx (a : Q4) (b : Int) : Option Int:=
  cond (b == 0) (some a.X) (cond (b == 1) (some a.Y) (some a.Z))
noncomputable def q4q (a : Ql) (b : Ql) : Option Bool:=
  some (decide ((w64 (a.Num * b.Den)) < (w64 (b.Num * a.Den))))
noncomputable def Js (b : Ql) (a : Int × List Ql) : Option ((Int × List Ql) ⊕ (Int × List Ql)):=
  (cond (decide (a.1 > 0)) ((idx a.2 (w64 (a.1 - 1))).bind fun c=>(q4q b c).bind fun d=>some d) (some false)).bind fun f=>cond f ((idx a.2 (w64 (a.1 - 1))).bind fun g=>(idx a.2 a.1).bind fun _=>some (.inl (w64 (a.1 - 1),a.2.set a.1.toNat g))) (some (.inr (a.1,a.2)))
noncomputable def q5b (f : qj) (d : Int × List Ql) (g : Q4) (h : Int) (a : Int × List Ql) : Option ((Int × List Ql) ⊕ (List Ql)):=
  cond (decide (a.1 < 2)) (((Kx f.Lo d.1).bind fun j=>(cond (a.1 == 1) ((Kx f.Hi d.1).bind fun k=>some k) (some j)).bind fun l=>(Kx g d.1).bind fun m=>(q2c (w64 ((w64 (2 * l)) - m)) (w64 (2 * h))).bind fun b=>cond (decide (b.Num≤0)) (some a.2) ((app 16 a.2 [b]).bind fun n=>(loop (Js b) ((a.2.length : Int),n)).bind fun c=>(idx c.2 c.1).bind fun _=>some (c.2.set c.1.toNat b))).bind fun o=>some (.inl (w64 (a.1 + 1),o))) (some (.inr a.2))
noncomputable def q5a (c : Q4) (d : qj) (f : Q4) (a : Int × List Ql) : Option ((Int × List Ql) ⊕ (List Ql)):=
  cond (decide (a.1 < 3)) (((Kx c a.1).bind fun b=>cond (b == 0) (some a.2) ((loop (q5b d a f b) (0,a.2)).bind fun g=>some g)).bind fun h=>some (.inl (w64 (a.1 + 1),h))) (some (.inr a.2))
noncomputable def q7x (a : qj) (b : Q4) (c : Q4) : Option (List Ql):=
  (q2c 0 1).bind fun d=>(loop (q5a c a b) (0,[d])).bind fun f=>some f
noncomputable def q27 (a : Ql) (b : Ql) : Option Int:=
  (q1d a).bind fun c=>cond (c != 0) ((q1d a).bind fun d=>some d) ((q1d b).bind fun f=>some f)
noncomputable def q4p (a : Ql) (b : Ql) : Option (Ql × Int):=
  (q27 a b).bind fun d=>cond (d != 0) ((q27 a b).bind fun f=>some (({Num:=0,Den:=0} : Ql),f)) ((q3a (w64 ((w64 (a.Num * b.Den)) + (w64 (b.Num * a.Den)))) (w64 (a.Den * b.Den))).bind fun c=>some (c.1,c.2))
noncomputable def q7j (a : Ql) (b : Ql) : Option (Ql × Int):=
  (q27 a b).bind fun d=>cond (d != 0) ((q27 a b).bind fun f=>some (({Num:=0,Den:=0} : Ql),f)) ((q3a (w64 (a.Num * b.Num)) (w64 (a.Den * b.Den))).bind fun c=>some (c.1,c.2))
noncomputable def q59 (g : Q4) (h : Q4) (c : qj) (a : Ql) (b : Int) : Option ((Int) ⊕ ((Unit) ⊕ (Bool))):=
  cond (decide (b < 3)) ((Kx g b).bind fun d=>(Kx h b).bind fun f=>(Kx c.Lo b).bind fun j=>(Kx c.Hi b).bind fun k=>(cond (decide ((w64 ((w64 (d * a.Den)) + (w64 ((w64 (2 * f)) * a.Num))))≤(w64 ((w64 (2 * j)) * a.Den)))) (some true) (some (decide ((w64 ((w64 (d * a.Den)) + (w64 ((w64 (2 * f)) * a.Num)))) ≥ (w64 ((w64 (2 * k)) * a.Den)))))).bind fun l=>cond l (some (.inr (.inr false))) (some (.inl (w64 (b + 1))))) (some (.inr (.inl ())))
noncomputable def q7w (a : qj) (b : Q4) (c : Q4) (d : Ql) : Option Bool:=
  (loop (q59 b c a d) 0 : Option ((Unit) ⊕ (Bool))).bind fun f=>(match f with | .inl _=>some true | .inr g=>some g)
noncomputable def q2b (b : List Ql) (g : qj) (h : Q4) (j : Q4) (a : Int) : Option ((Int) ⊕ ((Unit) ⊕ (Ql × Bool))):=
  cond (decide (a < (b.length : Int))) ((idx b a).bind fun k=>(q2c 1 1).bind fun l=>(q4p k l).bind fun c=>(cond (decide ((w64 (a + 1)) < (b.length : Int))) ((idx b (w64 (a + 1))).bind fun d=>some (d.Num,d.Den)) (some (c.1.Num,c.1.Den))).bind fun f=>(idx b a).bind fun m=>(q4p m ({Num:=f.1,Den:=f.2} : Ql)).bind fun n=>(q2c 1 2).bind fun o=>(q7j n.1 o).bind fun p=>(q7w g h j p.1).bind fun q=>cond q ((idx b a).bind fun r=>some (.inr (.inr (r,true)))) (some (.inl (w64 (a + 1))))) (some (.inr (.inl ())))
noncomputable def q56 (a : qj) (b : Q4) (c : Q4) : Option (Ql × Bool):=
  (q7x a b c).bind fun d=>(loop (q2b d a b c) 0 : Option ((Unit) ⊕ (Ql × Bool))).bind fun f=>(match f with | .inl _=>some (({Num:=0,Den:=0} : Ql),false) | .inr g=>some g)
noncomputable def q53 (b : List qj) (c : Q4) (d : Q4) (a : Int) : Option ((Int) ⊕ ((Unit) ⊕ (Bool))):=
  cond (decide (a < (b.length : Int))) ((idx b a).bind fun f=>(q56 f c d).bind fun g=>cond g.2 (some (.inr (.inr true))) (some (.inl (w64 (a + 1))))) (some (.inr (.inl ())))
noncomputable def q7s (a : List qj) (b : Q4) (c : Q4) : Option Bool:=
  (loop (q53 a b c) 0 : Option ((Unit) ⊕ (Bool))).bind fun d=>(match d with | .inl _=>some false | .inr f=>some f)
noncomputable def qbp (b : (Int × Int × Int)) (c : (Int × Int × Int)) (a : Int) : Option ((Int) ⊕ ((Unit) ⊕ (Bool))):=
  cond (decide (a < 3)) ((idxA 3 [b.1,b.2.1,b.2.2] a).bind fun d=>(cond (d == 0) ((idxA 3 [c.1,c.2.1,c.2.2] a).bind fun f=>some ((Int.tmod f 2) == 0)) (some false)).bind fun g=>cond g (some (.inr (.inr false))) (some (.inl (w64 (a + 1))))) (some (.inr (.inl ())))
noncomputable def q6q (a : Ym) : Option Bool:=
  (Ul a.p_).bind fun b=>(Ul a.d_).bind fun c=>(loop (qbp c b) 0 : Option ((Unit) ⊕ (Bool))).bind fun d=>(match d with | .inl _=>(q2q a.p_ 240).bind fun f=>some f | .inr g=>some g)
noncomputable def q9j (b : List qj) (c : Q4) (a : Q4) : Option (Bool × Int):=
  (q6o b a).bind fun d=>cond (d != 0) (some (false,d)) ((q6q ({p_:=c,d_:=a} : Ym)).bind fun f=>cond (!f) (some (false,2)) ((q9k ({p_:=c,d_:=a} : Ym) b).bind fun g=>some (g,0)))
noncomputable def qb5 (b : Q4) (c : Q4) (a : Int) : Option ((Int) ⊕ ((Unit) ⊕ (Bool))):=
  cond (decide (a < 3)) ((Kx b a).bind fun d=>(cond (d == 0) ((Kx c a).bind fun f=>some ((Int.tmod f 2) == 0)) (some false)).bind fun g=>cond g (some (.inr (.inr false))) (some (.inl (w64 (a + 1))))) (some (.inr (.inl ())))
noncomputable def q55 (a : Q4) (b : Q4) : Option Bool:=
  (loop (qb5 b a) 0 : Option ((Unit) ⊕ (Bool))).bind fun c=>(match c with | .inl _=>(Uf a 240).bind fun d=>some d | .inr f=>some f)
noncomputable def q7u (b : List qj) (c : Q4) (a : Q4) : Option (Bool × Int):=
  (q2a b a).bind fun d=>cond (d != 0) ((q2a b a).bind fun f=>some (false,f)) ((q55 c a).bind fun g=>cond (!g) (some (false,2)) ((q7s b c a).bind fun h=>some (!h,0)))
noncomputable def q5d (a : Int) : Option Int:=
  cond (decide (a < 0)) (some (IntKind.wrap .u64 (0 - (IntKind.wrap .u64 a)))) (some (IntKind.wrap .u64 a))
noncomputable def q5c (a : Int × Int) : Option ((Int × Int) ⊕ (Int)):=
  cond (a.2 != 0) ((remK a.1 a.2).bind fun b=>some (.inl (a.2,b))) (some (.inr a.1))
noncomputable def q7z (a : Int) (b : Int) : Option Int:=
  (loop q5c (a,b)).bind fun c=>some c
noncomputable def q7y (c : Int) (a : Int) : Option (Ql × Int):=
  cond (a == 0) (some (({Num:=0,Den:=0} : Ql),18)) ((q5d c).bind fun d=>(q5d a).bind fun f=>(q7z d f).bind fun g=>(quoK .u64 d g).bind fun b=>(quoK .u64 f g).bind fun h=>(cond (decide (b > 1000000000)) (some true) (some (decide (h > 1000000000)))).bind fun j=>cond j (some (({Num:=0,Den:=0} : Ql),16)) ((cond (!((decide (c < 0)) == (decide (a < 0)))) (some (w64 (0 - (w64 b)))) (some (w64 b))).bind fun k=>some (({Num:=k,Den:=w64 h} : Ql),0)))
noncomputable def q1n (d : List qj) (f : Q4) (g : Q4) (a : Bool × Int × Int × Int) : Option ((Bool × Int × Int × Int) ⊕ (Bool × Int × Int)):=
  cond (decide (a.2.1 < (d.length : Int))) (((idx d a.2.1).bind fun h=>(q6s ({p_:=f,d_:=g} : Ym) h).bind fun b=>(cond b.2 ((cond (!a.1) (some true) ((q2r b.1 ({num_:=a.2.2.1,den_:=a.2.2.2} : Kr)).bind fun j=>some j)).bind fun k=>some k) (some false)).bind fun l=>cond l (some (true,b.1.num_,b.1.den_)) (some (a.1,a.2.2.1,a.2.2.2))).bind fun c=>some (.inl (c.1,w64 (a.2.1 + 1),c.2.1,c.2.2))) (some (.inr (a.1,a.2.2.1,a.2.2.2)))
noncomputable def q9i (c : List qj) (d : Q4) (a : Q4) : Option (Ql × Int):=
  (q6o c a).bind fun f=>cond (f != 0) (some (({Num:=0,Den:=0} : Ql),f)) ((q6q ({p_:=d,d_:=a} : Ym)).bind fun h=>cond (!h) (some (({Num:=0,Den:=0} : Ql),2)) ((loop (q1n c d a) (false,0,0,0)).bind fun b=>cond (!b.1) (some (({Num:=0,Den:=0} : Ql),6)) ((q7y b.2.1 b.2.2).bind fun g=>some (g.1,g.2))))
noncomputable def q1f (d : List qj) (f : Q4) (g : Q4) (a : Bool × Int × Int × Int) : Option ((Bool × Int × Int × Int) ⊕ (Bool × Int × Int)):=
  cond (decide (a.2.1 < (d.length : Int))) (((idx d a.2.1).bind fun h=>(q56 h f g).bind fun b=>(cond b.2 ((cond (!a.1) (some true) ((q4q b.1 ({Num:=a.2.2.1,Den:=a.2.2.2} : Ql)).bind fun j=>some j)).bind fun k=>some k) (some false)).bind fun l=>cond l (some (true,b.1.Num,b.1.Den)) (some (a.1,a.2.2.1,a.2.2.2))).bind fun c=>some (.inl (c.1,w64 (a.2.1 + 1),c.2.1,c.2.2))) (some (.inr (a.1,a.2.2.1,a.2.2.2)))
noncomputable def q7t (b : List qj) (d : Q4) (a : Q4) : Option (Ql × Int):=
  (q2a b a).bind fun f=>cond (f != 0) ((q2a b a).bind fun g=>some (({Num:=0,Den:=0} : Ql),g)) ((q55 d a).bind fun h=>cond (!h) (some (({Num:=0,Den:=0} : Ql),2)) ((loop (q1f b d a) (false,0,0,0)).bind fun c=>cond (!c.1) (some (({Num:=0,Den:=0} : Ql),6)) (some (({Num:=c.2.1,Den:=c.2.2} : Ql),0))))
noncomputable def qak (a : List qj) (b : Q4) (c : Q4) : Option Bool:=
  (q7v a).bind fun j=>cond (!j) (some true) ((q9j a b c).bind fun g=>(q7u a b c).bind fun h=>(q9i a b c).bind fun d=>(q7t a b c).bind fun f=>(cond (g.1 == h.1) (some (g.2 == h.2)) (some false)).bind fun k=>(cond k (some ((d.1.Num == f.1.Num) && ((d.1.Den == f.1.Den) && true))) (some false)).bind fun l=>(cond l (some (d.2 == f.2)) (some false)).bind fun m=>some m)
noncomputable def q44 (b : List qo) (a : Int) : Option ((Int) ⊕ ((Unit) ⊕ (Int))):=
  cond (decide (a < (b.length : Int))) ((idx b a).bind fun c=>(q2p c).bind fun d=>(cond (!d) (some true) ((cond (decide (a > 0)) ((idx b (w64 (a - 1))).bind fun f=>some (decide (f.Hi ≥ c.Lo))) (some false)).bind fun g=>some g)).bind fun h=>cond h (some (.inr (.inr 8))) (some (.inl (w64 (a + 1))))) (some (.inr (.inl ())))
noncomputable def qbk (a : List qo) : Option Int:=
  cond (decide ((a.length : Int) > 400)) (some 4) ((loop (q44 a) 0 : Option ((Unit) ⊕ (Int))).bind fun b=>(match b with | .inl _=>some 0 | .inr c=>some c))
structure qlt where
  Turn : Int
  At : Q4
  deriving DecidableEq
noncomputable def qjj (a : qo) : Option Bool:=
  (cond (decide (a.Lo < a.Hi)) (some (decide (a.Lo ≥ (-1000000)))) (some false)).bind fun b=>(cond b (some (decide (a.Hi≤1000000))) (some false)).bind fun c=>some c
noncomputable def qdz (b : List qo) (a : Int) : Option ((Int) ⊕ ((Unit) ⊕ (Int))):=
  cond (decide (a < (b.length : Int))) ((idx b a).bind fun c=>(qjj c).bind fun d=>(cond (!d) (some true) ((cond (decide (a > 0)) ((idx b (w64 (a - 1))).bind fun f=>(idx b a).bind fun g=>some (decide (f.Hi ≥ g.Lo))) (some false)).bind fun h=>some h)).bind fun j=>cond j (some (.inr (.inr 8))) (some (.inl (w64 (a + 1))))) (some (.inr (.inl ())))
noncomputable def qav (a : List qo) : Option Int:=
  cond (decide ((a.length : Int) > 400)) (some 4) ((loop (qdz a) 0 : Option ((Unit) ⊕ (Int))).bind fun b=>(match b with | .inl _=>some 0 | .inr c=>some c))
noncomputable def q7k (b : List qo) (a : Int × List Int) : Option ((Int × List Int) ⊕ (List Int)):=
  cond (decide (a.1 < (b.length : Int))) ((idx b a.1).bind fun c=>(idx b a.1).bind fun d=>(app 8 a.2 [c.Lo,d.Hi]).bind fun f=>some (.inl (w64 (a.1 + 1),f))) (some (.inr a.2))
noncomputable def qjg (b : List qo) (a : Int × List Int) : Option ((Int × List Int) ⊕ (List Int)):=
  cond (decide (a.1 < (b.length : Int))) ((idx b a.1).bind fun c=>(idx b a.1).bind fun d=>(app 8 a.2 [c.Lo,d.Hi]).bind fun f=>some (.inl (w64 (a.1 + 1),f))) (some (.inr a.2))
noncomputable def qe0 (a : List qo) (b : List qo) : Option (List Int):=
  (loop (q7k a) (0,[])).bind fun c=>(loop (qjg b) (0,c)).bind fun d=>(Jh d).bind fun f=>some f
noncomputable def q7l (b : List qo) (c : Int) (a : Int) : Option ((Int) ⊕ ((Unit) ⊕ (Bool))):=
  cond (decide (a < (b.length : Int))) ((idx b a).bind fun d=>(cond (decide (d.Lo≤c)) ((idx b a).bind fun f=>some (decide (c < f.Hi))) (some false)).bind fun g=>cond g (some (.inr (.inr true))) (some (.inl (w64 (a + 1))))) (some (.inr (.inl ())))
noncomputable def qaw (a : List qo) (b : Int) : Option Bool:=
  (loop (q7l a b) 0 : Option ((Unit) ⊕ (Bool))).bind fun c=>(match c with | .inl _=>some false | .inr d=>some d)
noncomputable def q7m (b : List Int) (c : List qo) (d : List qo) (f : Int) (a : Int × List Bool) : Option ((Int × List Bool) ⊕ (List Bool)):=
  cond (decide (a.1 < (b.length : Int))) ((idx b a.1).bind fun g=>(qaw c g).bind fun h=>(idx b a.1).bind fun j=>(qaw d j).bind fun k=>(q4s f h k).bind fun l=>(app 1 a.2 [l]).bind fun m=>some (.inl (w64 (a.1 + 1),m))) (some (.inr a.2))
noncomputable def qax (d : Int) (a : List qo) (b : List qo) : Option (List qo):=
  (qe0 a b).bind fun c=>(loop (q7m c a b d) (0,[])).bind fun f=>(q3c c f).bind fun g=>some g
noncomputable def q98 (b : List qo) (a : Int × Int) : Option ((Int × Int) ⊕ (Int)):=
  cond (decide (a.2 < (b.length : Int))) ((idx b a.2).bind fun c=>some (.inl (w64 (a.1 + (w64 (c.Hi - c.Lo))),w64 (a.2 + 1)))) (some (.inr a.1))
noncomputable def qkx (a : List qo) : Option (Int × Int):=
  (qbk a).bind fun b=>cond (b != 0) (some (0,b)) ((loop (q98 a) (0,0)).bind fun c=>some (c,0))
noncomputable def q7n (b : List qo) (a : Int × Int) : Option ((Int × Int) ⊕ (Int)):=
  cond (decide (a.2 < (b.length : Int))) ((idx b a.2).bind fun c=>(idx b a.2).bind fun d=>some (.inl (w64 ((w64 (a.1 + c.Hi)) - d.Lo),w64 (a.2 + 1)))) (some (.inr a.1))
noncomputable def qji (a : List qo) : Option (Int × Int):=
  (qav a).bind fun b=>cond (b != 0) ((qav a).bind fun c=>some (0,c)) ((loop (q7n a) (0,0)).bind fun d=>some (d,0))
structure qzi where
  Frame : qlt
  Size : Q4
  deriving DecidableEq
structure qzh where
  t_ : Int
  at_ : Q4
  flat_ : Q4
  deriving DecidableEq
end Go.Sh
