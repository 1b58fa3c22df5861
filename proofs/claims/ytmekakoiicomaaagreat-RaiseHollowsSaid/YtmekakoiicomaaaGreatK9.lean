/- Pg0 Pl0 Pg1 Pg2 Pg3 Pg4 Pg5 -/
import Derived.Test.YtmekakoiicomaaaGreatK8
import Derived.Sort.AssemblyPlain
import Derived.Sort.LotD5
namespace Go.Sh
open Go Go.Am
def q4d : ByteArray:=⟨#[0,1,2,2,3,3,3,3,4,4,4,4,4,4,4,4,5,5,5,5,5,5,5,5,5,5,5,5,5,5,5,5,6,6,6,6,6,6,6,6,6,6,6,6,6,6,6,6,6,6,6,6,6,6,6,6,6,6,6,6,6,6,6,6,7,7,7,7,7,7,7,7,7,7,7,7,7,7,7,7,7,7,7,7,7,7,7,7,7,7,7,7,7,7,7,7,7,7,7,7,7,7,7,7,7,7,7,7,7,7,7,7,7,7,7,7,7,7,7,7,7,7,7,7,7,7,7,7,8,8,8,8,8,8,8,8,8,8,8,8,8,8,8,8,8,8,8,8,8,8,8,8,8,8,8,8,8,8,8,8,8,8,8,8,8,8,8,8,8,8,8,8,8,8,8,8,8,8,8,8,8,8,8,8,8,8,8,8,8,8,8,8,8,8,8,8,8,8,8,8,8,8,8,8,8,8,8,8,8,8,8,8,8,8,8,8,8,8,8,8,8,8,8,8,8,8,8,8,8,8,8,8,8,8,8,8,8,8,8,8,8,8,8,8,8,8,8,8,8,8,8,8,8,8,8,8]⟩
noncomputable def q2o (p0 : Int) : Option Int:=
  (cond (decide (p0 ≥ 4294967296)) (some (Int.fdiv p0 (2 ^ 32),32)) (some (p0,0))).bind fun b3=>(cond (decide (b3.1 ≥ 65536)) (some (Int.fdiv b3.1 (2 ^ 16),w64 (b3.2 + 16))) (some (b3.1,b3.2))).bind fun b6=>(cond (decide (b6.1 ≥ 256)) (some (Int.fdiv b6.1 (2 ^ 8),w64 (b6.2 + 8))) (some (b6.1,b6.2))).bind fun b9=>(q65 q4d (IntKind.wrap .u8 b9.1)).bind fun v10=>some (w64 (b9.2 + (w64 v10)))
noncomputable def q18 (p0 : Int) : Option Int:=
  (q2o p0).bind fun r1=>some r1
noncomputable def Jy {T : Type} (p1 : Int) (q1 : T→T→Option Int) (a459 : Int × List T) : Option ((Int × List T) ⊕ (List T)):=
  (cond (decide (a459.1 > p1)) ((idx a459.2 a459.1).bind fun v484=>(idx a459.2 (w64 (a459.1 - 1))).bind fun v486=>(q1 v484 v486).bind fun r488=>some (decide (r488 < 0))) (some false)).bind fun c469=>cond c469 ((idx a459.2 (w64 (a459.1 - 1))).bind fun v498=>(idx a459.2 a459.1).bind fun v500=>(idx a459.2 a459.1).bind fun _=>(idx (a459.2.set a459.1.toNat v498) (w64 (a459.1 - 1))).bind fun _=>some (.inl (w64 (a459.1 - 1),(a459.2.set a459.1.toNat v498).set (w64 (a459.1 - 1)).toNat v500))) (some (.inr a459.2))
noncomputable def q1d {T : Type} (p2 : Int) (p1 : Int) (q1 : T→T→Option Int) (a278 : Int × List T) : Option ((Int × List T) ⊕ (List T)):=
  cond (decide (a278.1 < p2)) (((loop (Jy p1 q1) (a278.1,a278.2)).bind fun x0=>some x0).bind fun b370=>some (.inl (w64 (a278.1 + 1),b370))) (some (.inr a278.2))
noncomputable def q1x {T : Type} (q1 : T→T→Option Int) (p0 : List T) (p1 : Int) (p2 : Int) : Option (List T):=
  (loop (q1d p2 p1 q1) (w64 (p1 + 1),p0)).bind fun x0=>some x0
noncomputable def U1 {T : Type} (p2 : Int) (p3 : Int) (q1 : T→T→Option Int) (a197 : Int × List T) : Option ((Int × List T) ⊕ (List T)):=
  cond (decide ((w64 ((w64 (2 * a197.1)) + 1)) ≥ p2)) (some (.inr a197.2)) ((cond (decide ((w64 ((w64 ((w64 (2 * a197.1)) + 1)) + 1)) < p2)) ((idx a197.2 (w64 (p3 + (w64 ((w64 (2 * a197.1)) + 1))))).bind fun v226=>(idx a197.2 (w64 ((w64 (p3 + (w64 ((w64 (2 * a197.1)) + 1)))) + 1))).bind fun v228=>(q1 v226 v228).bind fun r230=>some (decide (r230 < 0))) (some false)).bind fun c207=>(cond c207 (some (w64 ((w64 ((w64 (2 * a197.1)) + 1)) + 1))) (some (w64 ((w64 (2 * a197.1)) + 1)))).bind fun b234=>(idx a197.2 (w64 (p3 + a197.1))).bind fun v235=>(idx a197.2 (w64 (p3 + b234))).bind fun v237=>(q1 v235 v237).bind fun r239=>cond (!(decide (r239 < 0))) (some (.inr a197.2)) ((idx a197.2 (w64 (p3 + b234))).bind fun v241=>(idx a197.2 (w64 (p3 + a197.1))).bind fun v243=>(idx a197.2 (w64 (p3 + a197.1))).bind fun _=>(idx (a197.2.set (w64 (p3 + a197.1)).toNat v241) (w64 (p3 + b234))).bind fun _=>some (.inl (b234,(a197.2.set (w64 (p3 + a197.1)).toNat v241).set (w64 (p3 + b234)).toNat v243))))
noncomputable def Ur {T : Type} (q1 : T→T→Option Int) (p0 : List T) (p1 : Int) (p2 : Int) (p3 : Int) : Option (List T):=
  (loop (U1 p2 p3 q1) (p1,p0)).bind fun x0=>some x0
noncomputable def q1b {T : Type} (q1 : T→T→Option Int) (p2 : Int) (p1 : Int) (a123 : Int × List T) : Option ((Int × List T) ⊕ (List T)):=
  cond (decide (a123.1 ≥ 0)) ((Ur q1 a123.2 a123.1 (w64 (p2 - p1)) p1).bind fun e132=>(K5 e132.length a123.2.length).bind fun _=>some (.inl (w64 (a123.1 - 1),e132))) (some (.inr a123.2))
noncomputable def q1c {T : Type} (p1 : Int) (q1 : T→T→Option Int) (a191 : Int × List T) : Option ((Int × List T) ⊕ (List T)):=
  cond (decide (a191.1 ≥ 0)) ((idx a191.2 (w64 (p1 + a191.1))).bind fun v208=>(idx a191.2 p1).bind fun v210=>(idx a191.2 p1).bind fun _=>(idx (a191.2.set p1.toNat v208) (w64 (p1 + a191.1))).bind fun _=>(Ur q1 ((a191.2.set p1.toNat v208).set (w64 (p1 + a191.1)).toNat v210) 0 a191.1 p1).bind fun e216=>(K5 e216.length ((a191.2.set p1.toNat v208).set (w64 (p1 + a191.1)).toNat v210).length).bind fun _=>some (.inl (w64 (a191.1 - 1),e216))) (some (.inr a191.2))
noncomputable def q1w {T : Type} (q1 : T→T→Option Int) (p0 : List T) (p1 : Int) (p2 : Int) : Option (List T):=
  (loop (q1b q1 p2 p1) (w64 (Int.tdiv (w64 ((w64 (p2 - p1)) - 1)) 2),p0)).bind fun b126=>(loop (q1c p1 q1) (w64 ((w64 (p2 - p1)) - 1),b126)).bind fun x0=>some x0
noncomputable def q1y (p0 : Int) : Option Int:=
  (q18 (IntKind.wrap .u64 p0)).bind fun r1=>(shlK .u64 1 r1).bind fun q3=>some q3
noncomputable def q22 (p0 : Int) : Option Int:=
  some (xorI .u64 (xorI .u64 (xorI .u64 p0 (IntKind.wrap .u64 (p0 * (2 ^ 13)))) (Int.fdiv (xorI .u64 p0 (IntKind.wrap .u64 (p0 * (2 ^ 13)))) (2 ^ 7))) (IntKind.wrap .u64 ((xorI .u64 (xorI .u64 p0 (IntKind.wrap .u64 (p0 * (2 ^ 13)))) (Int.fdiv (xorI .u64 p0 (IntKind.wrap .u64 (p0 * (2 ^ 13)))) (2 ^ 7))) * (2 ^ 17))))
noncomputable def Uj {T : Type} (p1 : Int) (p2 : Int) (r101 : Int) (a153 : Int × List T × Int) : Option ((Int × List T × Int) ⊕ (List T)):=
  cond (decide (a153.1≤(w64 ((w64 (p1 + (w64 ((w64 (Int.tdiv (w64 (p2 - p1)) 4)) * 2)))) + 1)))) ((q22 a153.2.2).bind fun e168=>(cond (decide ((w64 (andI .u64 e168 (IntKind.wrap .u64 (r101 - 1)))) ≥ (w64 (p2 - p1)))) (some (w64 ((w64 (andI .u64 e168 (IntKind.wrap .u64 (r101 - 1)))) - (w64 (p2 - p1))))) (some (w64 (andI .u64 e168 (IntKind.wrap .u64 (r101 - 1)))))).bind fun b172=>(idx a153.2.1 (w64 (p1 + b172))).bind fun v173=>(idx a153.2.1 a153.1).bind fun v175=>(idx a153.2.1 a153.1).bind fun _=>(idx (a153.2.1.set a153.1.toNat v173) (w64 (p1 + b172))).bind fun _=>some (.inl (w64 (a153.1 + 1),(a153.2.1.set a153.1.toNat v173).set (w64 (p1 + b172)).toNat v175,e168))) (some (.inr a153.2.1))
noncomputable def q1a {T : Type} (_ : T→T→Option Int) (p0 : List T) (p1 : Int) (p2 : Int) : Option (List T):=
  cond (decide ((w64 (p2 - p1)) ≥ 8)) ((q1y (w64 (p2 - p1))).bind fun r101=>(loop (Uj p1 p2 r101) (w64 ((w64 (p1 + (w64 ((w64 (Int.tdiv (w64 (p2 - p1)) 4)) * 2)))) - 1),p0,IntKind.wrap .u64 (w64 (p2 - p1)))).bind fun x0=>some x0) (some p0)
noncomputable def Ul {T : Type} (q1 : T→T→Option Int) (p0 : List T) (p1 : Int) (p2 : Int) (p3 : Int) : Option (Int × Int × Int):=
  (idx p0 p2).bind fun v101=>(idx p0 p1).bind fun v103=>(q1 v101 v103).bind fun r105=>cond (decide (r105 < 0)) (some (p2,p1,w64 (p3 + 1))) (some (p1,p2,p3))
noncomputable def Uk {T : Type} (q1 : T→T→Option Int) (p0 : List T) (p1 : Int) (p2 : Int) (p3 : Int) (p4 : Int) : Option (Int × Int):=
  (Ul q1 p0 p1 p2 p4).bind fun e101=>(Ul q1 p0 e101.2.1 p3 e101.2.2).bind fun e103=>(Ul q1 p0 e101.1 e103.1 e103.2.2).bind fun e105=>some (e105.2.1,e105.2.2)
noncomputable def Jz {T : Type} (q1 : T→T→Option Int) (p0 : List T) (p1 : Int) (p2 : Int) : Option (Int × Int):=
  (Uk q1 p0 (w64 (p1 - 1)) p1 (w64 (p1 + 1)) p2).bind fun e101=>some (e101.1,e101.2)
noncomputable def q1v {T : Type} (p0 : List T) (p1 : Int) (p2 : Int) (p3 : T→T→Option Int) : Option (Int × Int):=
  (cond (decide ((w64 (p2 - p1)) ≥ 8)) ((cond (decide ((w64 (p2 - p1)) ≥ 50)) ((Jz p3 p0 (w64 (p1 + (w64 ((w64 (Int.tdiv (w64 (p2 - p1)) 4)) * 1)))) 0).bind fun e25=>(Jz p3 p0 (w64 (p1 + (w64 ((w64 (Int.tdiv (w64 (p2 - p1)) 4)) * 2)))) e25.2).bind fun e27=>(Jz p3 p0 (w64 (p1 + (w64 ((w64 (Int.tdiv (w64 (p2 - p1)) 4)) * 3)))) e27.2).bind fun e29=>some (e25.1,e27.1,e29.1,e29.2)) (some (w64 (p1 + (w64 ((w64 (Int.tdiv (w64 (p2 - p1)) 4)) * 1))),w64 (p1 + (w64 ((w64 (Int.tdiv (w64 (p2 - p1)) 4)) * 2))),w64 (p1 + (w64 ((w64 (Int.tdiv (w64 (p2 - p1)) 4)) * 3))),0))).bind fun b24=>(Uk p3 p0 b24.1 b24.2.1 b24.2.2.1 b24.2.2.2).bind fun e31=>some (e31.1,e31.2)) (some (w64 (p1 + (w64 ((w64 (Int.tdiv (w64 (p2 - p1)) 4)) * 2))),0))).bind fun b15=>cond (b15.2 == 0) (some (b15.1,1)) (cond (b15.2 == 12) (some (b15.1,2)) (some (b15.1,0)))
noncomputable def q21 {T : Type} (a119 : Int × Int × List T) : Option ((Int × Int × List T) ⊕ (List T)):=
  cond (decide (a119.1 < a119.2.1)) ((idx a119.2.2 a119.2.1).bind fun v123=>(idx a119.2.2 a119.1).bind fun v125=>(idx a119.2.2 a119.1).bind fun _=>(idx (a119.2.2.set a119.1.toNat v123) a119.2.1).bind fun _=>some (.inl (w64 (a119.1 + 1),w64 (a119.2.1 - 1),(a119.2.2.set a119.1.toNat v123).set a119.2.1.toNat v125))) (some (.inr a119.2.2))
noncomputable def q1i {T : Type} (_ : T→T→Option Int) (p0 : List T) (p1 : Int) (p2 : Int) : Option (List T):=
  (loop q21 (p1,w64 (p2 - 1),p0)).bind fun x0=>some x0
noncomputable def Um {T : Type} (p2 : Int) (a438 : Int × Int × List T) (q1 : T→T→Option Int) (a681 : Int) : Option ((Int) ⊕ (Int)):=
  (cond (decide (a681 < p2)) ((idx a438.2.2 a681).bind fun v707=>(idx a438.2.2 (w64 (a681 - 1))).bind fun v709=>(q1 v707 v709).bind fun r711=>some (!(decide (r711 < 0)))) (some false)).bind fun c691=>cond c691 (some (.inl (w64 (a681 + 1)))) (some (.inr a681))
noncomputable def Un {T : Type} (q1 : T→T→Option Int) (a838 : Int × List T) : Option ((Int × List T) ⊕ (List T)):=
  cond (decide (a838.1 ≥ 1)) ((idx a838.2 a838.1).bind fun v856=>(idx a838.2 (w64 (a838.1 - 1))).bind fun v858=>(q1 v856 v858).bind fun r860=>cond (!(decide (r860 < 0))) (some (.inr a838.2)) ((idx a838.2 (w64 (a838.1 - 1))).bind fun v862=>(idx a838.2 a838.1).bind fun v864=>(idx a838.2 a838.1).bind fun _=>(idx (a838.2.set a838.1.toNat v862) (w64 (a838.1 - 1))).bind fun _=>some (.inl (w64 (a838.1 - 1),(a838.2.set a838.1.toNat v862).set (w64 (a838.1 - 1)).toNat v864)))) (some (.inr a838.2))
noncomputable def Uo {T : Type} (p2 : Int) (q1 : T→T→Option Int) (b684 : Int) (a928 : Int × List T) : Option ((Int × List T) ⊕ (Int × List T)):=
  cond (decide (a928.1 < p2)) ((idx a928.2 a928.1).bind fun v946=>(idx a928.2 (w64 (a928.1 - 1))).bind fun v948=>(q1 v946 v948).bind fun r950=>cond (!(decide (r950 < 0))) (some (.inr (b684,a928.2))) ((idx a928.2 (w64 (a928.1 - 1))).bind fun v952=>(idx a928.2 a928.1).bind fun v954=>(idx a928.2 a928.1).bind fun _=>(idx (a928.2.set a928.1.toNat v952) (w64 (a928.1 - 1))).bind fun _=>some (.inl (w64 (a928.1 + 1),(a928.2.set a928.1.toNat v952).set (w64 (a928.1 - 1)).toNat v954)))) (some (.inr (b684,a928.2)))
noncomputable def Zm {T : Type} (p2 : Int) (q1 : T→T→Option Int) (p1 : Int) (a438 : Int × Int × List T) : Option ((Int × Int × List T) ⊕ ((List T) ⊕ (Bool × List T))):=
  cond (decide (a438.2.1 < 5)) (((loop (Um p2 a438 q1) a438.1).bind fun b684=>cond (b684 == p2) (some (.inr (true,a438.2.2))) (cond (decide ((w64 (p2 - p1)) < 50)) (some (.inr (false,a438.2.2))) ((idx a438.2.2 (w64 (b684 - 1))).bind fun v713=>(idx a438.2.2 b684).bind fun v715=>(idx a438.2.2 b684).bind fun _=>(idx (a438.2.2.set b684.toNat v713) (w64 (b684 - 1))).bind fun _=>(cond (decide ((w64 (b684 - p1)) ≥ 2)) ((loop (Un q1) (w64 (b684 - 1),(a438.2.2.set b684.toNat v713).set (w64 (b684 - 1)).toNat v715)).bind fun x0=>some x0) (some ((a438.2.2.set b684.toNat v713).set (w64 (b684 - 1)).toNat v715))).bind fun b779=>cond (decide ((w64 (p2 - b684)) ≥ 2)) ((loop (Uo p2 q1 b684) (w64 (b684 + 1),b779)).bind fun x0=>some (.inl x0)) (some (.inl (b684,b779))))) : Option ((Int × List T) ⊕ (Bool × List T))).bind fun m621=>(match m621 with | .inl b622=>some (.inl (b622.1,w64 (a438.2.1 + 1),b622.2)) | .inr x1=>some (.inr (.inr x1)))) (some (.inr (.inl a438.2.2)))
noncomputable def Ji {T : Type} (q1 : T→T→Option Int) (p0 : List T) (p1 : Int) (p2 : Int) : Option (Bool × List T):=
  (loop (Zm p2 q1 p1) (w64 (p1 + 1),0,p0) : Option ((List T) ⊕ (Bool × List T))).bind fun m439=>(match m439 with | .inl b441=>some (false,b441) | .inr x1=>some x1)
noncomputable def Up {T : Type} (a318 : Int × Int × List T) (p1 : Int) (q1 : T→T→Option Int) (a378 : Int) : Option ((Int) ⊕ (Int)):=
  (cond (decide (a378≤a318.2.1)) ((idx a318.2.2 p1).bind fun v403=>(idx a318.2.2 a378).bind fun v405=>(q1 v403 v405).bind fun r407=>some (!(decide (r407 < 0)))) (some false)).bind fun c388=>cond c388 (some (.inl (w64 (a378 + 1)))) (some (.inr a378))
noncomputable def Uq {T : Type} (b381 : Int) (a318 : Int × Int × List T) (p1 : Int) (q1 : T→T→Option Int) (a463 : Int) : Option ((Int) ⊕ (Int)):=
  (cond (decide (b381≤a463)) ((idx a318.2.2 p1).bind fun v487=>(idx a318.2.2 a463).bind fun v489=>(q1 v487 v489).bind fun r491=>some (decide (r491 < 0))) (some false)).bind fun c473=>cond c473 (some (.inl (w64 (a463 - 1)))) (some (.inr a463))
noncomputable def q1g {T : Type} (p1 : Int) (q1 : T→T→Option Int) (a318 : Int × Int × List T) : Option ((Int × Int × List T) ⊕ (Int × List T)):=
  (loop (Up a318 p1 q1) a318.1).bind fun b381=>(loop (Uq b381 a318 p1 q1) a318.2.1).bind fun b466=>cond (decide (b381 > b466)) (some (.inr (b381,a318.2.2))) ((idx a318.2.2 b466).bind fun v493=>(idx a318.2.2 b381).bind fun v495=>(idx a318.2.2 b381).bind fun _=>(idx (a318.2.2.set b381.toNat v493) b466).bind fun _=>some (.inl (w64 (b381 + 1),w64 (b466 - 1),(a318.2.2.set b381.toNat v493).set b466.toNat v495)))
noncomputable def q1f {T : Type} (q1 : T→T→Option Int) (p0 : List T) (p1 : Int) (p2 : Int) (p3 : Int) : Option (Int × List T):=
  (idx p0 p3).bind fun v101=>(idx p0 p1).bind fun v103=>(idx p0 p1).bind fun _=>(idx (p0.set p1.toNat v101) p3).bind fun _=>(loop (q1g p1 q1) (w64 (p1 + 1),w64 (p2 - 1),(p0.set p1.toNat v101).set p3.toNat v103)).bind fun b321=>some (b321.1,b321.2)
noncomputable def q1z {T : Type} (p2 : Int) (p0 : List T) (p1 : Int) (v101 : T) (p3 : Int) (v103 : T) (q1 : T→T→Option Int) (a163 : Int) : Option ((Int) ⊕ (Int)):=
  (cond (decide (a163≤(w64 (p2 - 1)))) ((idx ((p0.set p1.toNat v101).set p3.toNat v103) a163).bind fun v187=>(idx ((p0.set p1.toNat v101).set p3.toNat v103) p1).bind fun v189=>(q1 v187 v189).bind fun r191=>some (decide (r191 < 0))) (some false)).bind fun c173=>cond c173 (some (.inl (w64 (a163 + 1)))) (some (.inr a163))
noncomputable def q20 {T : Type} (b166 : Int) (p0 : List T) (p1 : Int) (v101 : T) (p3 : Int) (v103 : T) (q1 : T→T→Option Int) (a249 : Int) : Option ((Int) ⊕ (Int)):=
  (cond (decide (b166≤a249)) ((idx ((p0.set p1.toNat v101).set p3.toNat v103) a249).bind fun v274=>(idx ((p0.set p1.toNat v101).set p3.toNat v103) p1).bind fun v276=>(q1 v274 v276).bind fun r278=>some (!(decide (r278 < 0)))) (some false)).bind fun c259=>cond c259 (some (.inl (w64 (a249 - 1)))) (some (.inr a249))
noncomputable def J3 {T : Type} (a514 : Int × Int × List T) (p1 : Int) (q1 : T→T→Option Int) (a572 : Int) : Option ((Int) ⊕ (Int)):=
  (cond (decide (a572≤a514.2.1)) ((idx a514.2.2 a572).bind fun v596=>(idx a514.2.2 p1).bind fun v598=>(q1 v596 v598).bind fun r600=>some (decide (r600 < 0))) (some false)).bind fun c582=>cond c582 (some (.inl (w64 (a572 + 1)))) (some (.inr a572))
noncomputable def J4 {T : Type} (b575 : Int) (a514 : Int × Int × List T) (p1 : Int) (q1 : T→T→Option Int) (a658 : Int) : Option ((Int) ⊕ (Int)):=
  (cond (decide (b575≤a658)) ((idx a514.2.2 a658).bind fun v683=>(idx a514.2.2 p1).bind fun v685=>(q1 v683 v685).bind fun r687=>some (!(decide (r687 < 0)))) (some false)).bind fun c668=>cond c668 (some (.inl (w64 (a658 - 1)))) (some (.inr a658))
noncomputable def q1h {T : Type} (p1 : Int) (q1 : T→T→Option Int) (a514 : Int × Int × List T) : Option ((Int × Int × List T) ⊕ (Int × List T)):=
  (loop (J3 a514 p1 q1) a514.1).bind fun b575=>(loop (J4 b575 a514 p1 q1) a514.2.1).bind fun b661=>cond (decide (b575 > b661)) (some (.inr (b661,a514.2.2))) ((idx a514.2.2 b661).bind fun v689=>(idx a514.2.2 b575).bind fun v691=>(idx a514.2.2 b575).bind fun _=>(idx (a514.2.2.set b575.toNat v689) b661).bind fun _=>some (.inl (w64 (b575 + 1),w64 (b661 - 1),(a514.2.2.set b575.toNat v689).set b661.toNat v691)))
noncomputable def q1e {T : Type} (q1 : T→T→Option Int) (p0 : List T) (p1 : Int) (p2 : Int) (p3 : Int) : Option (Int × Bool × List T):=
  (idx p0 p3).bind fun v101=>(idx p0 p1).bind fun v103=>(idx p0 p1).bind fun _=>(idx (p0.set p1.toNat v101) p3).bind fun _=>(loop (q1z p2 p0 p1 v101 p3 v103 q1) (w64 (p1 + 1))).bind fun b166=>(loop (q20 b166 p0 p1 v101 p3 v103 q1) (w64 (p2 - 1))).bind fun b252=>cond (decide (b166 > b252)) ((idx ((p0.set p1.toNat v101).set p3.toNat v103) p1).bind fun v288=>(idx ((p0.set p1.toNat v101).set p3.toNat v103) b252).bind fun v290=>(idx ((p0.set p1.toNat v101).set p3.toNat v103) b252).bind fun _=>(idx (((p0.set p1.toNat v101).set p3.toNat v103).set b252.toNat v288) p1).bind fun _=>some (b252,true,(((p0.set p1.toNat v101).set p3.toNat v103).set b252.toNat v288).set p1.toNat v290)) ((idx ((p0.set p1.toNat v101).set p3.toNat v103) b252).bind fun v296=>(idx ((p0.set p1.toNat v101).set p3.toNat v103) b166).bind fun v298=>(idx ((p0.set p1.toNat v101).set p3.toNat v103) b166).bind fun _=>(idx (((p0.set p1.toNat v101).set p3.toNat v103).set b166.toNat v296) b252).bind fun _=>(loop (q1h p1 q1) (w64 (b166 + 1),w64 (b252 - 1),(((p0.set p1.toNat v101).set p3.toNat v103).set b166.toNat v296).set b252.toNat v298)).bind fun b517=>(idx b517.2 p1).bind fun v697=>(idx b517.2 b517.1).bind fun v699=>(idx b517.2 b517.1).bind fun _=>(idx (b517.2.set b517.1.toNat v697) p1).bind fun _=>some (b517.1,false,(b517.2.set b517.1.toNat v697).set p1.toNat v699))
noncomputable def Zd {T : Type} (q1 : T→T→Option Int) (rec : List T→Int→Int→Int→Option (List T)) (a309 : Int × Int × Int × Bool × Bool × List T) : Option ((Int × Int × Int × Bool × Bool × List T) ⊕ (List T)):=
  cond (decide ((w64 (a309.2.1 - a309.1))≤12)) ((q1x q1 a309.2.2.2.2.2 a309.1 a309.2.1).bind fun e318=>(K5 e318.length a309.2.2.2.2.2.length).bind fun _=>some (.inr e318)) (cond (a309.2.2.1 == 0) ((q1w q1 a309.2.2.2.2.2 a309.1 a309.2.1).bind fun e328=>(K5 e328.length a309.2.2.2.2.2.length).bind fun _=>some (.inr e328)) ((cond (!a309.2.2.2.1) ((q1a q1 a309.2.2.2.2.2 a309.1 a309.2.1).bind fun e341=>(K5 e341.length a309.2.2.2.2.2.length).bind fun _=>some (w64 (a309.2.2.1 - 1),e341)) (some (a309.2.2.1,a309.2.2.2.2.2))).bind fun b340=>(q1v b340.2 a309.1 a309.2.1 q1).bind fun r346=>(cond (r346.2 == 2) ((q1i q1 b340.2 a309.1 a309.2.1).bind fun e356=>(K5 e356.length b340.2.length).bind fun _=>some (w64 ((w64 (a309.2.1 - 1)) - (w64 (r346.1 - a309.1))),1,e356)) (some (r346.1,r346.2,b340.2))).bind fun b355=>(cond a309.2.2.2.1 (some a309.2.2.2.2.1) (some false)).bind fun c361=>(cond c361 (some (b355.2.1 == 1)) (some false)).bind fun c365=>(cond c365 ((Ji q1 b355.2.2 a309.1 a309.2.1).bind fun e378=>(K5 e378.2.length b355.2.2.length).bind fun _=>cond e378.1 (some (.inr e378.2)) (some (.inl e378.2))) (some (.inl b355.2.2)) : Option ((List T) ⊕ (List T))).bind fun m376=>(match m376 with | .inl b377=>(cond (decide (a309.1 > 0)) ((idx b377 (w64 (a309.1 - 1))).bind fun v405=>(idx b377 b355.1).bind fun v407=>(q1 v405 v407).bind fun r409=>some (!(decide (r409 < 0)))) (some false)).bind fun c389=>cond c389 ((q1f q1 b377 a309.1 a309.2.1 b355.1).bind fun e416=>(K5 e416.2.length b377.length).bind fun _=>some (.inl (e416.1,a309.2.1,b340.1,a309.2.2.2.1,a309.2.2.2.2.1,e416.2))) ((q1e q1 b377 a309.1 a309.2.1 b355.1).bind fun e421=>(K5 e421.2.2.length b377.length).bind fun _=>cond (decide ((w64 (e421.1 - a309.1)) < (w64 (a309.2.1 - e421.1)))) ((rec e421.2.2 a309.1 e421.1 b340.1).bind fun e426=>(K5 e426.length e421.2.2.length).bind fun _=>some (.inl (w64 (e421.1 + 1),a309.2.1,b340.1,decide ((w64 (e421.1 - a309.1)) ≥ (w64 (Int.tdiv (w64 (a309.2.1 - a309.1)) 8))),e421.2.1,e426))) ((rec e421.2.2 (w64 (e421.1 + 1)) a309.2.1 b340.1).bind fun e431=>(K5 e431.length e421.2.2.length).bind fun _=>some (.inl (a309.1,e421.1,b340.1,decide ((w64 (a309.2.1 - e421.1)) ≥ (w64 (Int.tdiv (w64 (a309.2.1 - a309.1)) 8))),e421.2.1,e431)))) | .inr x1=>some (.inr x1))))
noncomputable def U0 {T : Type} (rec : List T→Int→Int→Int→Option (List T)) (q1 : T→T→Option Int) (p0 : List T) (p1 : Int) (p2 : Int) (p3 : Int) : Option (List T):=
  (loop (Zd q1 rec) (p1,p2,p3,true,true,p0)).bind fun x0=>some x0
noncomputable def Zc {T : Type} : Nat→(T→T→Option Int)→List T→Int→Int→Int→Option (List T)
  | 0,_,_,_,_,_=>none
  | n + 1,q1,p0,p1,p2,p3=>U0 (Zc n q1) q1 p0 p1 p2 p3
noncomputable def q19 {T : Type} (q1 : T→T→Option Int) (p0 : List T) : Option (List T):=
  (q18 (IntKind.wrap .u64 (p0.length : Int))).bind fun r101=>(lim (fun n=>Zc n q1 p0 0 (p0.length : Int) r101)).bind fun e103=>(K5 e103.length p0.length).bind fun _=>some e103
end Go.Sh
namespace Go.Sh
open Go Go.Am
theorem K3 {α : Type} {xs : List α} {k : Nat} (h : k < xs.length) : idx xs (k : Int) = some xs[k]:=by simp [idx,h]
theorem Zu {α : Type} {xs : List α} {i : Int} {k : Nat} (hi : i = k) (h : k < xs.length) : idx xs i = some xs[k]:=by subst hi;exact K3 h
theorem Y3 {α : Type} {c : Nat} {xs ys : List α} (h : (xs.length + ys.length) * (c * 4)≤4294967296) : app c xs ys = some (xs ++ ys):=by simp [app,h]
theorem qsq {α : Type} {c : Bool} {a b : α} : (cond c (some a) (some b)) = some (cond c a b):=by cases c <;> rfl
theorem J6 {α β σ : Type} {f : α→Option (α ⊕ β)} (mk : Nat→σ→α) (n : Nat) (I : Nat→σ→Prop) (Q : β→Prop)
    (step : ∀ k c,k < n→I k c→(∃ g,f (mk k c) = some (.inl (mk (k + 1) g))∧I (k + 1) g)∨∃ b,f (mk k c) = some (.inr b)∧Q b)
    (done : ∀ c,I n c→∃ b,f (mk n c) = some (.inr b)∧Q b) {k0 : Nat} {c0 : σ} (h : k0≤n) (j : I k0 c0) : ∃ b,loop f (mk k0 c0) = some b∧Q b:=by
  have key : ∀ m k c,n - k = m→k≤n→I k c→∃ b,loop f (mk k c) = some b∧Q b:=by
    intro m
    induction m with
    | zero=>
      intro k c l h hi;obtain rfl : k = n:=by omega
      obtain ⟨b,d,a⟩:=done c hi;exact ⟨b,Km d,a⟩
    | succ m ih=>
      intro k c l h hi;rcases step k c q6 hi with ⟨g,d,a⟩ | ⟨b,d,a⟩
      · rw [Kn d];exact ih (k + 1) g q6 q6 a
      · exact ⟨b,Km d,a⟩
  exact key _ k0 c0 rfl h j
def I64 (x : Int) : Prop:=-9223372036854775808≤x∧x≤9223372036854775807
end Go.Sh
namespace Go.Sh
open Go Go.Am
section
variable {T : Type} [Inhabited T] {P : T→Prop} {lt : T→T→Bool} {q : T→T→Option Int}
def Y5 (q : T→T→Option Int) (lt : T→T→Bool) (P : T→Prop) : Prop:=∀ x y,P x→P y→∃ r,q x y = some r∧decide (r < 0) = lt x y
def AllP (n : Nat) (P : T→Prop) (d : Array T) : Prop:=d.size = n∧n≤1000000∧∀ i,i < n→P d[i]!
theorem gx {d : Array T} {k : Nat} (h : k < d.size) : idx d.toList (k : Int) = some d[k]!:=by
  simp [idx,h]
theorem gxs {d : Array T} {k : Nat} {i : Nat} {v : T} (h : k < d.size) : idx (d.toList.set i v) (k : Int) = some (d.setIfInBounds i v)[k]!:=by
  have : d.toList.set i v = (d.setIfInBounds i v).toList:=by simp
  rw [this];exact gx (by simpa using h)
theorem gswp {d : Array T} {i j : Nat} : (d.toList.set i d[j]!).set j d[i]! = (Sort.swp d i j).toList:=by simp [Sort.swp]
theorem AllP.swp {n : Nat} {d : Array T} (h : AllP n P d) {a b : Nat} (g : a < n) (hb : b < n) : AllP n P (Sort.swp d a b):=by
  obtain ⟨l,j,c⟩:=h;refine ⟨by rw [Sort.swp_size];exact l,j,fun k f=>?_⟩;rw [Sort.swp_get d q6 q6]
  repeat' split
  all_goals first | exact c _ g | exact c _ hb | exact c _ f
theorem AllP.perm {n : Nat} {d f : Array T} (h : AllP n P d) {a b : Nat} (_ : a≤b) (hb : b≤n) (hp : Sort.PermIn a b d f) : AllP n P f:=by
  obtain ⟨o,j,g⟩:=h;refine ⟨by rw [hp.1];exact o,j,fun k l=>?_⟩;by_cases c : k < a∨b≤k
  · rw [hp.2.1 k c];exact g k l
  · exact Sort.permIn_all d f a b P q6 hp (fun i hi m=>g i q6) k q6 q6
theorem w1m (j : Nat) (h : j < 2000000) : w64 (((j + 1 : Nat) : Int) - 1) = (j : Int):=by rw [Qm q6];omega
theorem w1p (j : Nat) (h : j < 2000000) : w64 ((j : Int) + 1) = ((j + 1 : Nat) : Int):=by rw [Qm q6];omega
theorem wsub {a b : Nat} (h : a≤b) (c : b < 2000000) : w64 ((b : Int) - (a : Int)) = ((b - a : Nat) : Int):=by rw [Qm q6];omega
theorem qmd (h : Y5 q lt P) (a n : Nat) : ∀ (j : Nat) (d : Array T),AllP n P d→j < n→loop (Jy (a : Int) q) ((j : Int),d.toList) = some (Sort.insInner lt a j d).toList∧AllP n P (Sort.insInner lt a j d)
  | 0,d,hd,hj=>by
    have c : decide (((0 : Nat) : Int) > (a : Int)) = false:=Qs q6
    refine ⟨Km ?_,hd⟩
    simp only [Jy,c,Q4,qn];rfl
  | j + 1,d,hd,hj=>by
    have p:=hd.1
    have s:=hd.2.1
    unfold Sort.insInner
    by_cases m : j + 1 > a
    · have c : decide (((j + 1 : Nat) : Int) > (a : Int)) = true:=Qr q6
      obtain ⟨r,o,g⟩:=h d[j + 1]! d[j]! (hd.2.2 _ hj) (hd.2.2 _ q6)
      by_cases f : lt d[j + 1]! d[j]! = true
      · rw [Q1 (by simp [m,f])]
        have l:=qmd h a n j _ (hd.swp (a:=j + 1) (b:=j) hj q6) q6
        refine ⟨?_,l.2⟩
        rw [Kn (a':=((j : Int),(Sort.swp d (j + 1) j).toList)) ?_]
        · exact l.1
        · simp only [Jy,c,Q5,gx (d:=d) (k:=j + 1) q6,w1m j q6,gx (d:=d) (k:=j) q6,gxs (d:=d) (k:=j) q6,qn,o,g,f,Int.toNat_natCast,gswp]
      · rw [Q2 (by simp [f])]
        refine ⟨Km ?_,hd⟩
        simp only [Jy,c,Q5,gx (d:=d) (k:=j + 1) q6,w1m j q6,gx (d:=d) (k:=j) q6,qn,o,g,f,Q4]
    · rw [Q2 (by simp [m])]
      have c : decide (((j + 1 : Nat) : Int) > (a : Int)) = false:=Qs q6
      refine ⟨Km ?_,hd⟩
      simp only [Jy,c,Q4,qn]
theorem quj (g : Y5 q lt P) (a b n : Nat) (hb : b≤n) : ∀ (m i : Nat) (d : Array T),b - i = m→AllP n P d→i≤1000001→loop (q1d (b : Int) (a : Int) q) ((i : Int),d.toList) = some (Sort.insOuter lt a b i d).toList:=by
  intro m
  induction m with
  | zero=>
    intro i d f hd hi;unfold Sort.insOuter;rw [Q2 q6];have c : decide ((i : Int) < (b : Int)) = false:=Qs q6;exact Km (by simp only [q1d,c,Q4])
  | succ m ih=>
    intro i d f hd hi;unfold Sort.insOuter;rw [Q1 q6];have c : decide ((i : Int) < (b : Int)) = true:=Qr q6;obtain ⟨j,h⟩:=qmd g a n i d hd q6;have:=hd.2.1;rw [Kn (a':=(((i + 1 : Nat) : Int),(Sort.insInner lt a i d).toList)) ?_]
    · exact ih (i + 1) _ q6 h q6
    · simp only [q1d,c,Q5,j,qn,w1p i q6]
theorem qul (c : Y5 q lt P) {a b n : Nat} (hb : b≤n) (f : a≤b) {d : Array T} (hd : AllP n P d) : q1x q d.toList (a : Int) (b : Int) = some (Sort.insertionSort lt d a b).toList:=by
  have:=hd.2.1;unfold q1x Sort.insertionSort;rw [w1p a q6,quj c a b n hb _ (a + 1) d rfl hd q6];rfl
theorem q11t (hq : Y5 q lt P) (hi first n : Nat) (hb : first + hi≤n) : ∀ (m root : Nat) (d : Array T),hi - root = m→AllP n P d→root≤1000000→(root < hi∨hi≤1)→loop (U1 (hi : Int) (first : Int) q) ((root : Int),d.toList) = some (Sort.siftDown lt hi first root d).toList∧AllP n P (Sort.siftDown lt hi first root d):=by
  intro m
  induction m using Nat.strongRecOn with
  | _ m ih=>
    intro root d hm hd hr am;have an:=hd.1;have hn:=hd.2.1;unfold Sort.siftDown;have y : w64 ((w64 (2 * (root : Int))) + 1) = ((2 * root + 1 : Nat) : Int):=by rw [Qm (x:=2 * (root : Int)) q6,Qm q6];omega
    by_cases hc : 2 * root + 1 ≥ hi
    · rw [dif_pos hc];have w : decide (((2 * root + 1 : Nat) : Int) ≥ (hi : Int)) = true:=Qr q6;refine ⟨Km ?_,hd⟩;simp only [U1,y,w,Q5]
    · rw [dif_neg hc];have w : decide (((2 * root + 1 : Nat) : Int) ≥ (hi : Int)) = false:=Qs q6;have e2 : w64 (((2 * root + 1 : Nat) : Int) + 1) = ((2 * root + 2 : Nat) : Int):=w1p _ q6;have e3 : w64 ((first : Int) + ((2 * root + 1 : Nat) : Int)) = ((first + (2 * root + 1) : Nat) : Int):=by rw [Qm q6];omega
      have e4 : w64 ((first : Int) + ((2 * root + 2 : Nat) : Int)) = ((first + (2 * root + 2) : Nat) : Int):=by rw [Qm q6];omega
      have e5 : w64 ((first : Int) + (root : Int)) = ((first + root : Nat) : Int):=by rw [Qm q6];omega
      have e6 : w64 (((first + (2 * root + 1) : Nat) : Int) + 1) = ((first + (2 * root + 2) : Nat) : Int):=w1p _ q6;have x1:=gx (d:=d) (k:=first + (2 * root + 1)) q6;have x0:=gx (d:=d) (k:=first + root) q6
      have child : ∀ c,(c = 2 * root + 1∨c = 2 * root + 2)→c < hi→
          (∀ (h : (cond (decide (((2 * root + 2 : Nat) : Int) < (hi : Int))) ((idx d.toList ((first + (2 * root + 1) : Nat) : Int)).bind fun l=>(idx d.toList ((first + (2 * root + 2) : Nat) : Int)).bind fun o=>(q l o).bind fun j=>some (decide (j < 0))) (some false)) = some (decide (c = 2 * root + 2))),
          (loop (U1 (hi : Int) (first : Int) q) ((root : Int),d.toList) = some (if (!lt d[first + root]! d[first + c]!) = true then d else Sort.siftDown lt hi first c (Sort.swp d (first + root) (first + c))).toList)∧AllP n P (if (!lt d[first + root]! d[first + c]!) = true then d else Sort.siftDown lt hi first c (Sort.swp d (first + root) (first + c)))):=by
        intro c aa z h
        have xc:=gx (d:=d) (k:=first + c) q6
        have xs:=fun v=>gxs (d:=d) (k:=first + c) (i:=first + root) (v:=v) q6
        obtain ⟨r,t,g⟩:=hq d[first + root]! d[first + c]! (hd.2.2 _ q6) (hd.2.2 _ q6)
        have hb : (cond (decide (c = 2 * root + 2)) (some ((2 * root + 2 : Nat) : Int)) (some ((2 * root + 1 : Nat) : Int))) = some (c : Int):=by
          rcases aa with rfl | rfl
          · simp
          · simp
        have ec : w64 ((first : Int) + (c : Int)) = ((first + c : Nat) : Int):=by rw [Qm q6];omega
        by_cases f : lt d[first + root]! d[first + c]! = true
        · have s:=ih (hi - c) q6 c _ rfl (hd.swp (a:=first + root) (b:=first + c) q6 q6) q6 (.inl z)
          rw [Q2 (by simp [f])]
          refine ⟨?_,s.2⟩
          rw [Kn (a':=((c : Int),(Sort.swp d (first + root) (first + c)).toList)) ?_]
          · exact s.1
          · simp only [U1,y,w,Q4,e2,e3,e6,h,qn,hb,e5,ec,x0,xc,xs,t,g,f,Bool.not_true,Int.toNat_natCast,gswp]
        · rw [Q1 (by simp [f])]
          refine ⟨Km ?_,hd⟩
          simp only [U1,y,w,Q4,e2,e3,e6,h,qn,hb,e5,ec,x0,xc,t,g,f,Bool.not_false,Q5]
      by_cases p : 2 * root + 2 < hi
      · have x2:=gx (d:=d) (k:=first + (2 * root + 2)) q6;have u : decide (((2 * root + 2 : Nat) : Int) < (hi : Int)) = true:=Qr q6;obtain ⟨r,t,g⟩:=hq d[first + (2 * root + 1)]! d[first + (2 * root + 2)]! (hd.2.2 _ q6) (hd.2.2 _ q6);by_cases f : lt d[first + (2 * root + 1)]! d[first + (2 * root + 2)]! = true
        · rw [Q1 (by simp only [Bool.and_eq_true,decide_eq_true_eq];exact ⟨q6,f⟩)];have:=child (2 * root + 2) (.inr rfl) p (by simp only [u,Q5,x1,x2,qn,t,g,f,decide_true]);rw [dif_pos p];exact this
        · rw [Q2 (by simp only [Bool.and_eq_true,decide_eq_true_eq];rintro ⟨_,h⟩;exact f h)];have:=child (2 * root + 1) (.inl rfl) q6 (by simp only [u,Q5,x1,x2,qn,t,g,f];simp);exact this
      · have u : decide (((2 * root + 2 : Nat) : Int) < (hi : Int)) = false:=Qs q6;rw [Q2 (by simp only [Bool.and_eq_true,decide_eq_true_eq];rintro ⟨h,_⟩;omega)];have:=child (2 * root + 1) (.inl rfl) q6 (by simp only [u,Q4];simp);exact this
end
end Go.Sh
namespace Go.Sh
open Go Go.Am
section
variable {T : Type} [Inhabited T] {P : T→Prop} {lt : T→T→Bool} {q : T→T→Option Int}
theorem q1m {n : Nat} {d a : Array T} (h : AllP n P d) (b : AllP n P a) : K5 a.toList.length d.toList.length = some ():=by
  unfold K5;rw [Q1 (by simp [h.1,b.1])]
theorem qlp (a : Y5 q lt P) (hi first n root : Nat) (hb : first + hi≤n) (d : Array T) (hd : AllP n P d) (f : root≤1000000) (b : root < hi∨hi≤1) : Ur q d.toList (root : Int) (hi : Int) (first : Int) = some (Sort.siftDown lt hi first root d).toList∧AllP n P (Sort.siftDown lt hi first root d):=by
  obtain ⟨g,c⟩:=q11t a hi first n hb _ root d rfl hd f b;exact ⟨by unfold Ur;rw [g];rfl,c⟩
theorem qm0 (g : Y5 q lt P) (a b n : Nat) (hb : b≤n) (c : a≤b) : ∀ (k : Nat) (d : Array T),AllP n P d→(k≤b - a∨b - a = 0∧k≤1)→loop (q1b q (b : Int) (a : Int)) ((k : Int) - 1,d.toList) = some (Sort.heapBuild lt (b - a) a k d).toList∧AllP n P (Sort.heapBuild lt (b - a) a k d)
  | 0,d,hd,hk=>by
    have f : decide (((0 : Nat) : Int) - 1 ≥ 0) = false:=Qs q6
    refine ⟨Km ?_,hd⟩
    simp only [q1b,f,Q4];rfl
  | k + 1,d,hd,hk=>by
    have o:=hd.2.1
    have e : (((k + 1 : Nat) : Int) - 1) = (k : Int):=by omega
    rw [e]
    have f : decide ((k : Int) ≥ 0) = true:=Qr q6
    obtain ⟨l,j⟩:=qlp g (b - a) a n k q6 d hd q6 q6
    have h:=qm0 g a b n hb c k _ j q6
    refine ⟨?_,h.2⟩
    rw [Kn (a':=((k : Int) - 1,(Sort.siftDown lt (b - a) a k d).toList)) ?_]
    · exact h.1
    · have m : w64 ((k : Int) - 1) = (k : Int) - 1:=Qm q6
      simp only [q1b,f,Q5,wsub c (by omega : b < 2000000),l,qn,q1m hd j,m]
theorem qm1 (h : Y5 q lt P) (a n : Nat) : ∀ (k : Nat) (d : Array T),AllP n P d→a + k≤n→loop (q1c (a : Int) q) ((k : Int) - 1,d.toList) = some (Sort.heapPop lt a k d).toList
  | 0,d,hd,hk=>by
    have g : decide (((0 : Nat) : Int) - 1 ≥ 0) = false:=Qs q6
    refine Km ?_
    simp only [q1c,g,Q4];rfl
  | k + 1,d,hd,hk=>by
    have p:=hd.1
    have r:=hd.2.1
    have e : (((k + 1 : Nat) : Int) - 1) = (k : Int):=by omega
    rw [e]
    have g : decide ((k : Int) ≥ 0) = true:=Qr q6
    have c:=hd.swp (a:=a) (b:=a + k) q6 q6
    obtain ⟨f,j⟩:=qlp h k a n 0 q6 _ c q6 q6
    have l:=qm1 h a n k _ j q6
    rw [Kn (a':=((k : Int) - 1,(Sort.siftDown lt k a 0 (Sort.swp d a (a + k))).toList)) ?_]
    · exact l
    · have m : w64 ((k : Int) - 1) = (k : Int) - 1:=Qm q6
      have o : w64 ((a : Int) + (k : Int)) = ((a + k : Nat) : Int):=by rw [Qm q6];omega
      have f : Ur q (Sort.swp d a (a + k)).toList 0 (k : Int) (a : Int) = _:=f
      simp only [q1c,g,Q5,o,gx (d:=d) (k:=a) q6,gx (d:=d) (k:=a + k) q6,gxs (d:=d) (k:=a + k) q6,qn,Int.toNat_natCast,gswp,f,q1m c j,m]
theorem qub (c : Y5 q lt P) {a b n : Nat} (hb : b≤n) (k : a < b) {d : Array T} (hd : AllP n P d) : q1w q d.toList (a : Int) (b : Int) = some (Sort.heapSort lt d a b).toList:=by
  have m:=hd.2.1;have f : w64 ((b : Int) - (a : Int)) = ((b - a : Nat) : Int):=wsub q6 q6;have l : w64 (((b - a : Nat) : Int) - 1) = ((b - a : Nat) : Int) - 1:=Qm q6
  have g : w64 (Int.tdiv (((b - a : Nat) : Int) - 1) 2) = (((b - a - 1) / 2 + 1 : Nat) : Int) - 1:=by
    rw [Int.tdiv_eq_ediv_of_nonneg q6,Qm q6];omega
  obtain ⟨j,h⟩:=qm0 c a b n hb q6 ((b - a - 1) / 2 + 1) d hd q6;unfold q1w Sort.heapSort;rw [f,l,g,j,qn,qm1 c a n (b - a) _ h q6];rfl
theorem q10e (n : Nat) : ∀ (m i j : Nat) (d : Array T),j - i = m→AllP n P d→j < n→i≤1000001→loop (q21 (T:=T)) ((i : Int),(j : Int),d.toList) = some (Sort.reverseLoop i j d).toList:=by
  intro m
  induction m using Nat.strongRecOn with
  | _ m ih=>
    intro i j d h hd f hi;have g:=hd.1;have l:=hd.2.1;unfold Sort.reverseLoop;by_cases b : i < j
    · rw [Q1 b];have a : decide ((i : Int) < (j : Int)) = true:=Qr q6;have c : w64 ((j : Int) - 1) = ((j - 1 : Nat) : Int):=by rw [Qm q6];omega
      rw [Kn (a':=(((i + 1 : Nat) : Int),((j - 1 : Nat) : Int),(Sort.swp d i j).toList)) ?_]
      · exact ih _ q6 _ _ _ rfl (hd.swp q6 f) q6 q6
      · simp only [q21,a,Q5,gx (d:=d) (k:=i) q6,gx (d:=d) (k:=j) q6,gxs (d:=d) (k:=j) q6,qn,Int.toNat_natCast,gswp,c,w1p i q6]
    · rw [Q2 b];have a : decide ((i : Int) < (j : Int)) = false:=Qs q6;exact Km (by simp only [q21,a,Q4])
theorem q10f {a b n : Nat} (hb : b≤n) (f : a < b) {d : Array T} (hd : AllP n P d) : q1i q d.toList (a : Int) (b : Int) = some (Sort.reverseRange d a b).toList:=by
  have g:=hd.2.1;have c : w64 ((b : Int) - 1) = ((b - 1 : Nat) : Int):=by rw [Qm q6];omega
  unfold q1i Sort.reverseRange;rw [c,q10e n _ a (b - 1) d rfl hd q6 q6];rfl
theorem qhv (g : Y5 q lt P) {n : Nat} {d : Array T} (hd : AllP n P d) {a b s : Nat} (f : a < n) (hb : b < n) (hs : s≤1000) : Ul q d.toList (a : Int) (b : Int) (s : Int) = some (((Sort.order2 lt d a b s).1 : Int),((Sort.order2 lt d a b s).2.1 : Int),((Sort.order2 lt d a b s).2.2 : Int))∧(Sort.order2 lt d a b s).1 < n∧(Sort.order2 lt d a b s).2.1 < n∧(Sort.order2 lt d a b s).2.2≤s + 1:=by
  have l:=hd.1;obtain ⟨r,j,h⟩:=g d[b]! d[a]! (hd.2.2 _ hb) (hd.2.2 _ f);unfold Ul Sort.order2;rw [gx (d:=d) (k:=b) q6,gx (d:=d) (k:=a) q6];simp only [qn,j,h];by_cases c : lt d[b]! d[a]! = true
  · rw [Q1 c];simp only [c,Q5,w1p s q6];exact ⟨trivial,hb,f,q6⟩
  · rw [Q2 c];have : lt d[b]! d[a]! = false:=by simpa using c
    simp only [this,Q4];exact ⟨trivial,f,hb,q6⟩
theorem qhd (f : Y5 q lt P) {n : Nat} {d : Array T} (hd : AllP n P d) {a b c s : Nat} (m : a < n) (hb : b < n) (p : c < n) (hs : s≤900) : Uk q d.toList (a : Int) (b : Int) (c : Int) (s : Int) = some (((Sort.median lt d a b c s).1 : Int),((Sort.median lt d a b c s).2 : Int))∧(Sort.median lt d a b c s).1 < n∧(Sort.median lt d a b c s).2≤s + 3:=by
  obtain ⟨o,k,b1,c1⟩:=qhv f hd m hb (s:=s) q6;obtain ⟨g,l,r,c2⟩:=qhv f hd b1 p (s:=(Sort.order2 lt d a b s).2.2) q6;obtain ⟨h,t,j,c3⟩:=qhv f hd k l (s:=(Sort.order2 lt d (Sort.order2 lt d a b s).2.1 c (Sort.order2 lt d a b s).2.2).2.2) q6;unfold Uk Sort.median;simp only [o,g,h,qn];exact ⟨trivial,j,q6⟩
theorem qhc (g : Y5 q lt P) {n : Nat} {d : Array T} (hd : AllP n P d) {a s : Nat} (l : 1≤a) (f : a + 1 < n) (hs : s≤900) : Jz q d.toList (a : Int) (s : Int) = some (((Sort.medianAdjacent lt d a s).1 : Int),((Sort.medianAdjacent lt d a s).2 : Int))∧(Sort.medianAdjacent lt d a s).1 < n∧(Sort.medianAdjacent lt d a s).2≤s + 3:=by
  have m:=hd.2.1;obtain ⟨j,h,k⟩:=qhd g hd (a:=a - 1) (b:=a) (c:=a + 1) (s:=s) q6 q6 f hs;have e : w64 ((a : Int) - 1) = ((a - 1 : Nat) : Int):=by rw [Qm q6];omega
  unfold Jz Sort.medianAdjacent;rw [e,w1p a q6,j];exact ⟨rfl,h,k⟩
def qgz : Sort.Hint→Int
  | .unknown=>0
  | .increasing=>1
  | .decreasing=>2
theorem qsc (m : Y5 q lt P) {n : Nat} {d : Array T} (hd : AllP n P d) {a b : Nat} (af : a < b) (hb : b≤n) : q1v d.toList (a : Int) (b : Int) q = some (((Sort.choosePivot lt d a b).1 : Int),qgz (Sort.choosePivot lt d a b).2):=by
  have hn:=hd.2.1;have e0 : w64 ((b : Int) - (a : Int)) = ((b - a : Nat) : Int):=wsub q6 q6
  have e1 : w64 (Int.tdiv ((b - a : Nat) : Int) 4) = (((b - a) / 4 : Nat) : Int):=by
    rw [Int.tdiv_eq_ediv_of_nonneg q6,Qm q6];omega
  have y : ∀ k : Nat,k≤3→w64 ((a : Int) + (w64 ((((b - a) / 4 : Nat) : Int) * (k : Int)))) = ((a + (b - a) / 4 * k : Nat) : Int):=by
    intro k hk;have : (b - a) / 4 * k≤(b - a) / 4 * 3:=Nat.mul_le_mul_left _ hk;have e : ((((b - a) / 4 : Nat) : Int) * (k : Int)) = (((b - a) / 4 * k : Nat) : Int):=by push_cast;rfl
    rw [e,Qm (x:=(((b - a) / 4 * k : Nat) : Int)) q6,Qm q6];omega
  have u:=y 1 q6;have g:=y 2 q6;have p:=y 3 q6
  have f : ∀ r : Nat × Nat,(cond (((r.2 : Int)) == 0) (some ((r.1 : Int),(1 : Int))) (cond (((r.2 : Int)) == 12) (some ((r.1 : Int),(2 : Int))) (some ((r.1 : Int),(0 : Int))))) = some ((r.1 : Int),qgz (if r.2 = 0 then Sort.Hint.increasing else if r.2 = 12 then Sort.Hint.decreasing else Sort.Hint.unknown)):=by
    intro r;by_cases v : r.2 = 0
    · have : ((r.2 : Int) == 0) = true:=by simp [v]
      simp only [this,Q5,Q1 v];rfl
    · have t0 : ((r.2 : Int) == 0) = false:=by simp;omega
      by_cases o : r.2 = 12
      · have : ((r.2 : Int) == 12) = true:=by simp;omega
        simp only [t0,this,Q5,Q4,Q2 v,Q1 o];rfl
      · have : ((r.2 : Int) == 12) = false:=by simp;omega
        simp only [t0,this,Q4,Q2 v,Q2 o];rfl
  unfold q1v Sort.choosePivot;simp only [e0,e1];by_cases h8 : b - a ≥ 8
  · have w : decide (((b - a : Nat) : Int) ≥ 8) = true:=Qr q6;by_cases t : b - a ≥ 50
    · have h : decide (((b - a : Nat) : Int) ≥ 50) = true:=Qr q6;obtain ⟨x1,y1,z1⟩:=qhc m hd (a:=a + (b - a) / 4 * 1) (s:=0) q6 q6 q6;obtain ⟨x2,y2,z2⟩:=qhc m hd (a:=a + (b - a) / 4 * 2) (s:=(Sort.medianAdjacent lt d (a + (b - a) / 4 * 1) 0).2) q6 q6 q6;obtain ⟨x3,y3,z3⟩:=qhc m hd (a:=a + (b - a) / 4 * 3) (s:=(Sort.medianAdjacent lt d (a + (b - a) / 4 * 2) (Sort.medianAdjacent lt d (a + (b - a) / 4 * 1) 0).2).2) q6 q6 q6;obtain ⟨j,y4,z4⟩:=qhd m hd y1 y2 y3 (s:=(Sort.medianAdjacent lt d (a + (b - a) / 4 * 3) (Sort.medianAdjacent lt d (a + (b - a) / 4 * 2) (Sort.medianAdjacent lt d (a + (b - a) / 4 * 1) 0).2).2).2) q6;simp only [Q1 h8,Q1 t,w,h,Q5];have z : w64 ((a : Int) + (w64 ((((b - a) / 4 : Nat) : Int) * 1))) = _:=u;have l : w64 ((a : Int) + (w64 ((((b - a) / 4 : Nat) : Int) * 2))) = _:=g;have g3 : w64 ((a : Int) + (w64 ((((b - a) / 4 : Nat) : Int) * 3))) = _:=p;have x1 : Jz q d.toList ((a + (b - a) / 4 * 1 : Nat) : Int) 0 = _:=x1;rw [z,l,g3];simp only [x1,x2,x3,j,qn];exact f _
    · have h : decide (((b - a : Nat) : Int) ≥ 50) = false:=Qs q6;obtain ⟨j,y4,z4⟩:=qhd m hd (a:=a + (b - a) / 4 * 1) (b:=a + (b - a) / 4 * 2) (c:=a + (b - a) / 4 * 3) (s:=0) q6 q6 q6 q6;simp only [Q1 h8,Q2 t,w,h,Q5,Q4];have z : w64 ((a : Int) + (w64 ((((b - a) / 4 : Nat) : Int) * 1))) = _:=u;have l : w64 ((a : Int) + (w64 ((((b - a) / 4 : Nat) : Int) * 2))) = _:=g;have g3 : w64 ((a : Int) + (w64 ((((b - a) / 4 : Nat) : Int) * 3))) = _:=p;have j : Uk q d.toList ((a + (b - a) / 4 * 1 : Nat) : Int) ((a + (b - a) / 4 * 2 : Nat) : Int) ((a + (b - a) / 4 * 3 : Nat) : Int) 0 = _:=j;rw [z,l,g3];simp only [j,qn];exact f _
  · have w : decide (((b - a : Nat) : Int) ≥ 8) = false:=Qs q6;simp only [Q2 h8,w,Q4];have l : w64 ((a : Int) + (w64 ((((b - a) / 4 : Nat) : Int) * 2))) = _:=g;rw [l];simp only [qn];exact f (a + (b - a) / 4 * 2,0)
end
end Go.Sh
namespace Go.Sh
open Go Go.Am
theorem q34 (n : Int) : IntKind.u64.wrap n = n % 18446744073709551616:=by simp [IntKind.wrap,IntKind.bits,IntKind.signed]
theorem q179 (n : Int) : IntKind.u8.wrap n = n % 256:=by simp [IntKind.wrap,IntKind.bits,IntKind.signed]
theorem xorU (a b : Nat) (c : a < 18446744073709551616) (hb : b < 18446744073709551616) : xorI .u64 (a : Int) (b : Int) = ((a ^^^ b : Nat) : Int):=by
  have d : a ^^^ b < 2 ^ 64:=Nat.xor_lt_two_pow q6 q6;unfold xorI;rw [q34];show ((BitVec.ofInt 64 (a : Int) ^^^ BitVec.ofInt 64 (b : Int)).toNat : Int) % _ = _;rw [BitVec.ofInt_natCast,BitVec.ofInt_natCast,BitVec.toNat_xor,BitVec.toNat_ofNat,BitVec.toNat_ofNat,Nat.mod_eq_of_lt (a:=a) q6,Nat.mod_eq_of_lt (a:=b) q6];omega
theorem andU (a b : Nat) (c : a < 18446744073709551616) (hb : b < 18446744073709551616) : andI .u64 (a : Int) (b : Int) = ((a &&& b : Nat) : Int):=by
  have d : a &&& b≤a:=Nat.and_le_left;unfold andI;rw [q34];show ((BitVec.ofInt 64 (a : Int) &&& BitVec.ofInt 64 (b : Int)).toNat : Int) % _ = _;rw [BitVec.ofInt_natCast,BitVec.ofInt_natCast,BitVec.toNat_and,BitVec.toNat_ofNat,BitVec.toNat_ofNat,Nat.mod_eq_of_lt (a:=a) q6,Nat.mod_eq_of_lt (a:=b) q6];omega
theorem q17c (X : Nat) (d : X < 18446744073709551616) : q22 (X : Int) = some ((Sort.xorNextN X : Nat) : Int):=by
  obtain ⟨A,b⟩ : ∃ A : Nat,A = X ^^^ (X * 8192 % 18446744073709551616):=⟨_,rfl⟩
  obtain ⟨B,a⟩ : ∃ B : Nat,B = A ^^^ (A / 128):=⟨_,rfl⟩
  have f : A < 18446744073709551616:=by rw [b];exact Nat.xor_lt_two_pow (n:=64) q6 q6
  have c : B < 18446744073709551616:=by rw [a];exact Nat.xor_lt_two_pow (n:=64) q6 q6
  have g : xorI .u64 (X : Int) (IntKind.u64.wrap ((X : Int) * 2 ^ 13)) = (A : Int):=by
    rw [q34,show ((X : Int) * 2 ^ 13 % 18446744073709551616) = ((X * 8192 % 18446744073709551616 : Nat) : Int) by omega,xorU _ _ d q6,b]
  have k : xorI .u64 (A : Int) (Int.fdiv (A : Int) (2 ^ 7)) = (B : Int):=by
    rw [Int.fdiv_eq_ediv_of_nonneg _ qy,show ((A : Int) / 2 ^ 7) = ((A / 128 : Nat) : Int) by omega,xorU _ _ f q6,a]
  have h : xorI .u64 (B : Int) (IntKind.u64.wrap ((B : Int) * 2 ^ 17)) = ((B ^^^ (B * 131072 % 18446744073709551616) : Nat) : Int):=by
    rw [q34,show ((B : Int) * 2 ^ 17 % 18446744073709551616) = ((B * 131072 % 18446744073709551616 : Nat) : Int) by omega,xorU _ _ c q6]
  have j : Sort.xorNextN X = B ^^^ (B * 131072 % 18446744073709551616):=by unfold Sort.xorNextN;simp only [];rw [← b,← a]
  unfold q22;rw [g,k,h,j]
theorem q16k : ∀ k : Nat,k < 256→q65 q4d (k : Int) = some ((Sort.bitsLen k : Nat) : Int):=by
  have key : ∀ k : Fin 256,(q4d[k.1]?).map (fun b=>b.toNat) = some (Sort.bitsLen k.1):=by decide +kernel
  intro k c;have:=key ⟨k,c⟩;unfold q65;rw [Q1 q6,Int.toNat_natCast];simp only [Yc] at this ⊢;obtain ⟨b,a,d⟩:=this;exact ⟨b,a,by rw [d]⟩
theorem qjq (n k : Nat) (h : 2 ^ k≤n) : Sort.bitsLen n = Sort.bitsLen (n / 2 ^ k) + k:=by
  have hp : 0 < 2 ^ k:=Nat.two_pow_pos k;apply Nat.le_antisymm
  · rw [Sort.bitsLen_le_iff];have:=Sort.lt_two_pow_bitsLen (n / 2 ^ k);rw [Nat.pow_add];exact (Nat.div_lt_iff_lt_mul hp).1 this
  · have b : k < Sort.bitsLen n:=by
      rcases Nat.lt_or_ge k (Sort.bitsLen n) with a | a
      · exact a
      · have:=(Sort.bitsLen_le_iff n k).1 a;omega
    have : Sort.bitsLen (n / 2 ^ k)≤Sort.bitsLen n - k:=by
      rw [Sort.bitsLen_le_iff,Nat.div_lt_iff_lt_mul hp,← Nat.pow_add,Nat.sub_add_cancel q6];exact Sort.lt_two_pow_bitsLen n
    omega
theorem qmn (n : Nat) (h : n≤1000000) : q18 (n : Int) = some ((Sort.bitsLen n : Nat) : Int):=by
  unfold q18 q2o;have d : decide ((n : Int) ≥ 4294967296) = false:=Qs q6;simp only [d,Q4,qn]
  have fin : ∀ m s : Nat,m < 256→s≤16→(q65 q4d (IntKind.u8.wrap (m : Int))).bind (fun c=>some (w64 ((s : Int) + (w64 c)))) = some ((Sort.bitsLen m + s : Nat) : Int):=by
    intro m s f hs;rw [q179,show ((m : Int) % 256) = (m : Int) by omega,q16k m f];have : Sort.bitsLen m≤8:=(Sort.bitsLen_le_iff m 8).2 q6;rw [qn,Qm (x:=((Sort.bitsLen m : Nat) : Int)) q6,Qm q6];congr 1;omega
  by_cases j : n ≥ 65536
  · have b : decide ((n : Int) ≥ 65536) = true:=Qr q6;have e : Int.fdiv (n : Int) (2 ^ 16) = ((n / 65536 : Nat) : Int):=by rw [Int.fdiv_eq_ediv_of_nonneg _ qy];omega
    have a : decide (((n / 65536 : Nat) : Int) ≥ 256) = false:=Qs q6;have w : w64 (0 + 16) = ((16 : Nat) : Int):=by rw [Qm q6];rfl
    simp only [b,Q5,qn,e,a,Q4,w];rw [fin (n / 65536) 16 q6 q6,qn,qjq n 16 q6]
  · have b : decide ((n : Int) ≥ 65536) = false:=Qs q6;simp only [b,Q4,qn];by_cases g : n ≥ 256
    · have a : decide ((n : Int) ≥ 256) = true:=Qr q6;have e : Int.fdiv (n : Int) (2 ^ 8) = ((n / 256 : Nat) : Int):=by rw [Int.fdiv_eq_ediv_of_nonneg _ qy];omega
      have w : w64 (0 + 8) = ((8 : Nat) : Int):=by rw [Qm q6];rfl
      simp only [a,Q5,qn,e,w];rw [fin (n / 256) 8 q6 q6,qn,qjq n 8 q6]
    · have a : decide ((n : Int) ≥ 256) = false:=Qs q6;simp only [a,Q4,qn];have:=fin n 0 q6 q6;exact congrArg (fun o=>Option.bind o some) this
theorem qvt (n : Nat) (b : n≤1000000) : q1y (n : Int) = some ((1 <<< Sort.bitsLen n : Nat) : Int):=by
  unfold q1y;rw [q34,show ((n : Int) % 18446744073709551616) = (n : Int) by omega,qmn n b];have a : Sort.bitsLen n≤20:=(Sort.bitsLen_le_iff n 20).2 q6;have h : (2 : Nat) ^ Sort.bitsLen n≤2 ^ 20:=Nat.pow_le_pow_right qy a;have e : min (Sort.bitsLen n) IntKind.u64.bits = Sort.bitsLen n:=Nat.min_eq_left (by show _≤64;omega);simp only [qn,shlK];rw [Q2 q6,Int.toNat_natCast,e,q34,Nat.one_shiftLeft,qn,show ((1 : Int) * (2 : Int) ^ Sort.bitsLen n) = ((2 ^ Sort.bitsLen n : Nat) : Int) by push_cast;omega];generalize (2 : Nat) ^ Sort.bitsLen n = p at h;congr 1;omega
section
variable {T : Type} [Inhabited T] {P : T→Prop} {lt : T→T→Bool} {q : T→T→Option Int}
theorem qg0 {a b n : Nat} (hb : b≤n) (h8 : 8≤b - a) {d : Array T} (hd : AllP n P d) (k : Nat) (hk : k≤2) (r : UInt64) :
    Uj (a : Int) (b : Int) ((1 <<< Sort.bitsLen (b - a) : Nat) : Int) (((a + (b - a) / 4 * 2 - 1 + k : Nat) : Int),d.toList,((r.toNat : Nat) : Int)) =
      some (.inl (((a + (b - a) / 4 * 2 - 1 + k + 1 : Nat) : Int),(Sort.breakStep a (b - a) (1 <<< Sort.bitsLen (b - a)) (r,d) (a + (b - a) / 4 * 2 - 1 + k)).2.toList,(((Sort.breakStep a (b - a) (1 <<< Sort.bitsLen (b - a)) (r,d) (a + (b - a) / 4 * 2 - 1 + k)).1.toNat : Nat) : Int)))∧
      AllP n P (Sort.breakStep a (b - a) (1 <<< Sort.bitsLen (b - a)) (r,d) (a + (b - a) / 4 * 2 - 1 + k)).2:=by
  have ab:=hd.1;have hn:=hd.2.1;have q : r.toNat < 18446744073709551616:=r.toNat_lt;have u : w64 ((b : Int) - (a : Int)) = ((b - a : Nat) : Int):=wsub q6 q6
  have e1 : w64 (Int.tdiv ((b - a : Nat) : Int) 4) = (((b - a) / 4 : Nat) : Int):=by
    rw [Int.tdiv_eq_ediv_of_nonneg q6,Qm q6];omega
  have e2 : w64 ((((b - a) / 4 : Nat) : Int) * 2) = (((b - a) / 4 * 2 : Nat) : Int):=by rw [Qm q6];omega
  have e3 : w64 ((a : Int) + (((b - a) / 4 * 2 : Nat) : Int)) = ((a + (b - a) / 4 * 2 : Nat) : Int):=by rw [Qm q6];omega
  have e4 : w64 (((a + (b - a) / 4 * 2 : Nat) : Int) + 1) = ((a + (b - a) / 4 * 2 + 1 : Nat) : Int):=w1p _ q6;have w : decide (((a + (b - a) / 4 * 2 - 1 + k : Nat) : Int)≤((a + (b - a) / 4 * 2 + 1 : Nat) : Int)) = true:=Qr q6;have hx:=q17c r.toNat q;have x : Sort.xorNextN r.toNat < 18446744073709551616:=Sort.xorNextN_lt _ q;have g : Sort.bitsLen (b - a)≤20:=(Sort.bitsLen_le_iff _ 20).2 q6;have h : (2 : Nat) ^ Sort.bitsLen (b - a)≤2 ^ 20:=Nat.pow_le_pow_right qy g;have hp1 : 0 < (2 : Nat) ^ Sort.bitsLen (b - a):=Nat.two_pow_pos _;have v:=Sort.two_pow_bitsLen_le (n:=b - a) q6;have c : (1 : Nat) <<< Sort.bitsLen (b - a) = 2 ^ Sort.bitsLen (b - a):=Nat.one_shiftLeft _
  have em : IntKind.u64.wrap (((1 <<< Sort.bitsLen (b - a) : Nat) : Int) - 1) = ((1 <<< Sort.bitsLen (b - a) - 1 : Nat) : Int):=by
    rw [q34,c];generalize (2 : Nat) ^ Sort.bitsLen (b - a) = p at h hp1;omega
  have f : (Sort.xorNextN r.toNat) &&& (1 <<< Sort.bitsLen (b - a) - 1) < 2 ^ Sort.bitsLen (b - a):=by
    rw [c];have : (Sort.xorNextN r.toNat) &&& (2 ^ Sort.bitsLen (b - a) - 1)≤2 ^ Sort.bitsLen (b - a) - 1:=Nat.and_le_right;omega
  have s:=andU (Sort.xorNextN r.toNat) (1 <<< Sort.bitsLen (b - a) - 1) x (by rw [c];omega);unfold Sort.breakStep;simp only [Sort.xorNext_toNat];generalize hm : (Sort.xorNextN r.toNat) &&& (1 <<< Sort.bitsLen (b - a) - 1) = m at f s;have z : m < 2 * (b - a):=by omega
  have y : w64 (m : Int) = (m : Int):=Qm q6
  have l : (cond (decide ((m : Int) ≥ ((b - a : Nat) : Int))) (some (w64 ((m : Int) - ((b - a : Nat) : Int)))) (some (m : Int))) = some (((if m ≥ b - a then m - (b - a) else m) : Nat) : Int):=by
    by_cases j : m ≥ b - a
    · have t : decide ((m : Int) ≥ ((b - a : Nat) : Int)) = true:=Qr q6;rw [t,Q5,Q1 j,wsub j q6]
    · have t : decide ((m : Int) ≥ ((b - a : Nat) : Int)) = false:=Qs q6;rw [t,Q4,Q2 j]
  have ho : (if m ≥ b - a then m - (b - a) else m) < b - a:=by split <;> omega
  generalize (if m ≥ b - a then m - (b - a) else m) = o at l ho;have eo : w64 ((a : Int) + (o : Int)) = ((a + o : Nat) : Int):=by rw [Qm q6];omega
  refine ⟨?_,hd.swp q6 q6⟩;simp only [Uj,u,e1,e2,e3,e4,w,Q5,hx,qn,em,s,y,l,eo,gx (d:=d) (k:=a + o) q6,gx (d:=d) (k:=a + (b - a) / 4 * 2 - 1 + k) q6,gxs (d:=d) (k:=a + o) q6,Int.toNat_natCast,gswp,w1p (a + (b - a) / 4 * 2 - 1 + k) q6]
theorem qr6 {a b n : Nat} (hb : b≤n) (u : a < b) {d : Array T} (hd : AllP n P d) : q1a q d.toList (a : Int) (b : Int) = some (Sort.breakPatterns d a b).toList:=by
  have z:=hd.2.1;have g : w64 ((b : Int) - (a : Int)) = ((b - a : Nat) : Int):=wsub q6 q6;unfold q1a Sort.breakPatterns;simp only [g];by_cases c : b - a ≥ 8
  · have t : decide (((b - a : Nat) : Int) ≥ 8) = true:=Qr q6;rw [t,Q5,Q1 c,qvt _ q6,qn]
    have k : w64 (Int.tdiv ((b - a : Nat) : Int) 4) = (((b - a) / 4 : Nat) : Int):=by
      rw [Int.tdiv_eq_ediv_of_nonneg q6,Qm q6];omega
    have r : w64 ((((b - a) / 4 : Nat) : Int) * 2) = (((b - a) / 4 * 2 : Nat) : Int):=by rw [Qm q6];omega
    have l : w64 ((a : Int) + (((b - a) / 4 * 2 : Nat) : Int)) = ((a + (b - a) / 4 * 2 : Nat) : Int):=by rw [Qm q6];omega
    have x : w64 (((a + (b - a) / 4 * 2 : Nat) : Int) - 1) = ((a + (b - a) / 4 * 2 - 1 : Nat) : Int):=by rw [Qm q6];omega
    have s : IntKind.u64.wrap ((b - a : Nat) : Int) = (((UInt64.ofNat (b - a)).toNat : Nat) : Int):=by
      rw [q34,UInt64.toNat_ofNat'];omega
    rw [k,r,l,x,s];obtain ⟨h,o⟩:=qg0 hb c hd 0 q6 (UInt64.ofNat (b - a));obtain ⟨m,p⟩:=qg0 hb c o 1 q6 (Sort.breakStep a (b - a) (1 <<< Sort.bitsLen (b - a)) (UInt64.ofNat (b - a),d) (a + (b - a) / 4 * 2 - 1 + 0)).1;obtain ⟨j,y⟩:=qg0 hb c p 2 q6 (Sort.breakStep a (b - a) (1 <<< Sort.bitsLen (b - a)) ((Sort.breakStep a (b - a) (1 <<< Sort.bitsLen (b - a)) (UInt64.ofNat (b - a),d) (a + (b - a) / 4 * 2 - 1 + 0)).1,(Sort.breakStep a (b - a) (1 <<< Sort.bitsLen (b - a)) (UInt64.ofNat (b - a),d) (a + (b - a) / 4 * 2 - 1 + 0)).2) (a + (b - a) / 4 * 2 - 1 + 1)).1;simp only [Nat.add_zero,Prod.eta] at h m j o p y;rw [Kn h,Kn m,Kn j]
    have f : Uj (T:=T) (a : Int) (b : Int) ((1 <<< Sort.bitsLen (b - a) : Nat) : Int) (((a + (b - a) / 4 * 2 - 1 + 2 + 1 : Nat) : Int),(Sort.breakStep a (b - a) (1 <<< Sort.bitsLen (b - a)) (Sort.breakStep a (b - a) (1 <<< Sort.bitsLen (b - a)) (Sort.breakStep a (b - a) (1 <<< Sort.bitsLen (b - a)) (UInt64.ofNat (b - a),d) (a + (b - a) / 4 * 2 - 1)) (a + (b - a) / 4 * 2 - 1 + 1)) (a + (b - a) / 4 * 2 - 1 + 2)).2.toList,(((Sort.breakStep a (b - a) (1 <<< Sort.bitsLen (b - a)) (Sort.breakStep a (b - a) (1 <<< Sort.bitsLen (b - a)) (Sort.breakStep a (b - a) (1 <<< Sort.bitsLen (b - a)) (UInt64.ofNat (b - a),d) (a + (b - a) / 4 * 2 - 1)) (a + (b - a) / 4 * 2 - 1 + 1)) (a + (b - a) / 4 * 2 - 1 + 2)).1.toNat : Nat) : Int)) = some (.inr (Sort.breakStep a (b - a) (1 <<< Sort.bitsLen (b - a)) (Sort.breakStep a (b - a) (1 <<< Sort.bitsLen (b - a)) (Sort.breakStep a (b - a) (1 <<< Sort.bitsLen (b - a)) (UInt64.ofNat (b - a),d) (a + (b - a) / 4 * 2 - 1)) (a + (b - a) / 4 * 2 - 1 + 1)) (a + (b - a) / 4 * 2 - 1 + 2)).2.toList):=by
      have w : w64 (((a + (b - a) / 4 * 2 : Nat) : Int) + 1) = ((a + (b - a) / 4 * 2 + 1 : Nat) : Int):=w1p _ q6;have v : decide (((a + (b - a) / 4 * 2 - 1 + 2 + 1 : Nat) : Int)≤((a + (b - a) / 4 * 2 + 1 : Nat) : Int)) = false:=Qs q6;simp only [Uj,g,k,r,l,w,v,Q4]
    rw [Km f];rfl
  · have t : decide (((b - a : Nat) : Int) ≥ 8) = false:=Qs q6;rw [t,Q4,Q2 c]
end
end Go.Sh
namespace Go.Sh
open Go Go.Am
section
variable {T : Type} [Inhabited T] {P : T→Prop} {lt : T→T→Bool} {q : T→T→Option Int}
theorem qi9 {f : Int→Option (Int ⊕ Int)} (p : T→Bool) (d : Array T) (j : Nat)
    (b : ∀ k : Nat,k≤1000002→f (k : Int) = if (decide (k≤j) && p d[k]!) = true then some (.inl ((k + 1 : Nat) : Int)) else some (.inr (k : Int))) (g : j≤1000000) :
    ∀ (m i : Nat),j + 1 - i = m→i≤1000002→loop f (i : Int) = some ((Sort.scanUp p d j i : Nat) : Int):=by
  intro m
  induction m with
  | zero=>
    intro i c hi;unfold Sort.scanUp;have a : ¬ (decide (i≤j) && p d[i]!) = true:=by simp;omega
    rw [Q2 a];exact Km (by rw [b i hi,Q2 a])
  | succ m ih=>
    intro i c hi;unfold Sort.scanUp;by_cases a : (decide (i≤j) && p d[i]!) = true
    · rw [Q1 a,Kn (by rw [b i hi,Q1 a])];exact ih (i + 1) q6 q6
    · rw [Q2 a];exact Km (by rw [b i hi,Q2 a])
theorem qew {f : Int→Option (Int ⊕ Int)} (p : T→Bool) (d : Array T) (i n : Nat) (hi : 1≤i)
    (b : ∀ k : Nat,k < n→f (k : Int) = if (decide (i≤k) && p d[k]!) = true then some (.inl ((k - 1 : Nat) : Int)) else some (.inr (k : Int))) :
    ∀ (j : Nat),j < n→loop f (j : Int) = some ((Sort.scanDown p d i j : Nat) : Int)
  | 0,hj=>by
    have a : ¬ (decide (i≤0) && p d[0]!) = true:=by simp;omega
    exact Km (by rw [b 0 hj,Q2 a];rfl)
  | j + 1,hj=>by
    unfold Sort.scanDown
    by_cases a : (decide (i≤j + 1) && p d[j + 1]!) = true
    · rw [Q1 a,Kn (by rw [b (j + 1) hj,Q1 a])]
      exact qew p d i n hi b j q6
    · rw [Q2 a]
      exact Km (by rw [b (j + 1) hj,Q2 a])
theorem qnt (b : Y5 q lt P) {n : Nat} {d : Array T} (hd : AllP n P d) {a j : Nat} (c : a < n) (o : j < n) (x : Int) (k : Nat) (m : k≤1000002) :
    J3 (x,(j : Int),d.toList) (a : Int) q (k : Int) = if (decide (k≤j) && (fun x=>lt x d[a]!) d[k]!) = true then some (.inl ((k + 1 : Nat) : Int)) else some (.inr (k : Int)):=by
  have l:=hd.1;by_cases h : k≤j
  · obtain ⟨r,g,f⟩:=b d[k]! d[a]! (hd.2.2 _ q6) (hd.2.2 _ c);have t : decide ((k : Int)≤(j : Int)) = true:=Qr q6;simp only [J3,t,Q5,gx (d:=d) (k:=k) q6,gx (d:=d) (k:=a) q6,qn,g,f,w1p k q6];simp only [Qr h,Bool.true_and,Bool.cond_eq_ite]
  · have t : decide ((k : Int)≤(j : Int)) = false:=Qs q6;simp only [J3,t,Q4,qn];simp [h]
theorem qnu (c : Y5 q lt P) {n : Nat} {d : Array T} (hd : AllP n P d) {a i : Nat} (f : a < n) (hi : 1≤i) (x y : Int) (k : Nat) (m : k < n) :
    J4 (i : Int) (x,y,d.toList) (a : Int) q (k : Int) = if (decide (i≤k) && (fun x=>!lt x d[a]!) d[k]!) = true then some (.inl ((k - 1 : Nat) : Int)) else some (.inr (k : Int)):=by
  have j:=hd.1;have l:=hd.2.1;by_cases h : i≤k
  · obtain ⟨r,g,b⟩:=c d[k]! d[a]! (hd.2.2 _ q6) (hd.2.2 _ f);have t : decide ((i : Int)≤(k : Int)) = true:=Qr q6;have w : w64 ((k : Int) - 1) = ((k - 1 : Nat) : Int):=by rw [Qm q6];omega
    simp only [J4,t,Q5,gx (d:=d) (k:=k) q6,gx (d:=d) (k:=a) q6,qn,g,b,w];simp only [Qr h,Bool.true_and,Bool.cond_eq_ite]
  · have t : decide ((i : Int)≤(k : Int)) = false:=Qs q6;simp only [J4,t,Q4,qn];simp [h]
theorem qyi (b : Y5 q lt P) {n : Nat} {d : Array T} (hd : AllP n P d) {a j : Nat} (c : a < n) (o : j < n) (x : Int) (k : Nat) (m : k≤1000002) :
    Up (x,(j : Int),d.toList) (a : Int) q (k : Int) = if (decide (k≤j) && (fun x=>!lt d[a]! x) d[k]!) = true then some (.inl ((k + 1 : Nat) : Int)) else some (.inr (k : Int)):=by
  have l:=hd.1;by_cases h : k≤j
  · obtain ⟨r,g,f⟩:=b d[a]! d[k]! (hd.2.2 _ c) (hd.2.2 _ q6);have t : decide ((k : Int)≤(j : Int)) = true:=Qr q6;simp only [Up,t,Q5,gx (d:=d) (k:=k) q6,gx (d:=d) (k:=a) q6,qn,g,f,w1p k q6];simp only [Qr h,Bool.true_and,Bool.cond_eq_ite]
  · have t : decide ((k : Int)≤(j : Int)) = false:=Qs q6;simp only [Up,t,Q4,qn];simp [h]
theorem qyj (c : Y5 q lt P) {n : Nat} {d : Array T} (hd : AllP n P d) {a i : Nat} (f : a < n) (hi : 1≤i) (x y : Int) (k : Nat) (m : k < n) :
    Uq (i : Int) (x,y,d.toList) (a : Int) q (k : Int) = if (decide (i≤k) && (fun x=>lt d[a]! x) d[k]!) = true then some (.inl ((k - 1 : Nat) : Int)) else some (.inr (k : Int)):=by
  have j:=hd.1;have l:=hd.2.1;by_cases h : i≤k
  · obtain ⟨r,g,b⟩:=c d[a]! d[k]! (hd.2.2 _ f) (hd.2.2 _ q6);have t : decide ((i : Int)≤(k : Int)) = true:=Qr q6;have w : w64 ((k : Int) - 1) = ((k - 1 : Nat) : Int):=by rw [Qm q6];omega
    simp only [Uq,t,Q5,gx (d:=d) (k:=k) q6,gx (d:=d) (k:=a) q6,qn,g,b,w];simp only [Qr h,Bool.true_and,Bool.cond_eq_ite]
  · have t : decide ((i : Int)≤(k : Int)) = false:=Qs q6;simp only [Uq,t,Q4,qn];simp [h]
theorem qyd (r : Y5 q lt P) (a n : Nat) (u : a < n) : ∀ (m i j : Nat) (d : Array T),j + 1 - i = m→AllP n P d→1≤i→i≤n + 1→j < n→
    loop (q1h (a : Int) q) ((i : Int),(j : Int),d.toList) = some (((Sort.partLoop lt a i j d).1 : Int),(Sort.partLoop lt a i j d).2.toList)∧AllP n P (Sort.partLoop lt a i j d).2∧(Sort.partLoop lt a i j d).1 < n:=by
  intro m
  induction m using Nat.strongRecOn with
  | _ m ih=>
    intro i j d hm hd hi z s;have ab:=hd.1;have hn:=hd.2.1;rw [Sort.partLoop_eq];have p:=qi9 (f:=J3 ((i : Int),(j : Int),d.toList) (a : Int) q) (fun x=>lt x d[a]!) d j (fun k l=>qnt r hd u s _ k l) q6 _ i rfl q6;have g1:=Sort.scanUp_ge (fun x=>lt x d[a]!) d j i;have u1:=(Sort.scanUp_spec (fun x=>lt x d[a]!) d j _ i rfl).2.1;generalize Sort.scanUp (fun x=>lt x d[a]!) d j i = c at p g1 u1 ⊢;have o:=qew (f:=J4 (c : Int) ((i : Int),(j : Int),d.toList) (a : Int) q) (fun x=>!lt x d[a]!) d c n q6 (fun k l=>qnu r hd u q6 _ _ k l) j s;have y:=Sort.scanDown_le (fun x=>!lt x d[a]!) d c j;generalize Sort.scanDown (fun x=>!lt x d[a]!) d c j = g at o y ⊢;by_cases v : c > g
    · rw [Q1 v];have t : decide ((c : Int) > (g : Int)) = true:=Qr q6;refine ⟨Km ?_,hd,by show g < n;omega⟩;simp only [q1h,p,o,qn,t,Q5]
    · rw [Q2 v];have t : decide ((c : Int) > (g : Int)) = false:=Qs q6;have h:=ih ((g - 1) + 1 - (c + 1)) q6 (c + 1) (g - 1) _ rfl (hd.swp (a:=c) (b:=g) q6 q6) q6 q6 q6;refine ⟨?_,h.2⟩;rw [Kn (a':=(((c + 1 : Nat) : Int),((g - 1 : Nat) : Int),(Sort.swp d c g).toList)) ?_]
      · exact h.1
      · have w : w64 ((g : Int) - 1) = ((g - 1 : Nat) : Int):=by rw [Qm q6];omega
        simp only [q1h,p,o,qn,t,Q4,gx (d:=d) (k:=c) q6,gx (d:=d) (k:=g) q6,gxs (d:=d) (k:=g) q6,Int.toNat_natCast,gswp,w,w1p c q6]
theorem qyc (p : Y5 q lt P) (a n : Nat) (s : a < n) : ∀ (m i j : Nat) (d : Array T),j + 1 - i = m→AllP n P d→1≤i→i≤n + 1→j < n→
    loop (q1g (a : Int) q) ((i : Int),(j : Int),d.toList) = some (((Sort.partEqLoop lt a i j d).1 : Int),(Sort.partEqLoop lt a i j d).2.toList):=by
  intro m
  induction m using Nat.strongRecOn with
  | _ m ih=>
    intro i j d hm hd hi y r;have aa:=hd.1;have hn:=hd.2.1;rw [Sort.partEqLoop_eq];have o:=qi9 (f:=Up ((i : Int),(j : Int),d.toList) (a : Int) q) (fun x=>!lt d[a]! x) d j (fun k h=>qyi p hd s r _ k h) q6 _ i rfl q6;have g1:=Sort.scanUp_ge (fun x=>!lt d[a]! x) d j i;have z:=(Sort.scanUp_spec (fun x=>!lt d[a]! x) d j _ i rfl).2.1;generalize Sort.scanUp (fun x=>!lt d[a]! x) d j i = c at o g1 z ⊢;have l:=qew (f:=Uq (c : Int) ((i : Int),(j : Int),d.toList) (a : Int) q) (fun x=>lt d[a]! x) d c n q6 (fun k h=>qyj p hd s q6 _ _ k h) j r;have v:=Sort.scanDown_le (fun x=>lt d[a]! x) d c j;generalize Sort.scanDown (fun x=>lt d[a]! x) d c j = g at l v ⊢;by_cases u : c > g
    · rw [Q1 u];have t : decide ((c : Int) > (g : Int)) = true:=Qr q6;refine Km ?_;simp only [q1g,o,l,qn,t,Q5]
    · rw [Q2 u];have t : decide ((c : Int) > (g : Int)) = false:=Qs q6;rw [Kn (a':=(((c + 1 : Nat) : Int),((g - 1 : Nat) : Int),(Sort.swp d c g).toList)) ?_]
      · exact ih ((g - 1) + 1 - (c + 1)) q6 (c + 1) (g - 1) _ rfl (hd.swp (a:=c) (b:=g) q6 q6) q6 q6 q6
      · have w : w64 ((g : Int) - 1) = ((g - 1 : Nat) : Int):=by rw [Qm q6];omega
        simp only [q1g,o,l,qn,t,Q4,gx (d:=d) (k:=c) q6,gx (d:=d) (k:=g) q6,gxs (d:=d) (k:=g) q6,Int.toNat_natCast,gswp,w,w1p c q6]
theorem qyf (c : Y5 q lt P) {a b n p : Nat} (hb : b≤n) (f : a < b) (hp : p < n) {d : Array T} (hd : AllP n P d) :
    q1f q d.toList (a : Int) (b : Int) (p : Int) = some (((Sort.partitionEqual lt d a b p).1 : Int),(Sort.partitionEqual lt d a b p).2.toList):=by
  have g:=hd.1;have h:=hd.2.1;have w : w64 ((b : Int) - 1) = ((b - 1 : Nat) : Int):=by rw [Qm q6];omega
  have s:=qyc c a n q6 _ (a + 1) (b - 1) _ rfl (hd.swp (a:=a) (b:=p) q6 hp) q6 q6 q6;unfold q1f Sort.partitionEqual;simp only [gx (d:=d) (k:=p) q6,gx (d:=d) (k:=a) q6,gxs (d:=d) (k:=p) q6,qn,Int.toNat_natCast,gswp,w,w1p a q6,s]
theorem qyg (l : Y5 q lt P) {a b n p : Nat} (hb : b≤n) (u : a < b) (hp : p < n) {d : Array T} (hd : AllP n P d) :
    q1e q d.toList (a : Int) (b : Int) (p : Int) = some (((Sort.partition lt d a b p).1 : Int),(Sort.partition lt d a b p).2.1,(Sort.partition lt d a b p).2.2.toList):=by
  have ab:=hd.1;have hn:=hd.2.1;have w : w64 ((b : Int) - 1) = ((b - 1 : Nat) : Int):=by rw [Qm q6];omega
  have h:=hd.swp (a:=a) (b:=p) q6 hp
  have e1 : q1z (b : Int) d.toList (a : Int) d[p]! (p : Int) d[a]! q = J3 ((0 : Int),((b - 1 : Nat) : Int),(Sort.swp d a p).toList) (a : Int) q:=by
    funext k;simp only [q1z,J3,w,Int.toNat_natCast,gswp]
  have e2 : ∀ c : Int,q20 c d.toList (a : Int) d[p]! (p : Int) d[a]! q = J4 c ((0 : Int),(0 : Int),(Sort.swp d a p).toList) (a : Int) q:=by
    intro c;funext k;simp only [q20,J4,Int.toNat_natCast,gswp]
  unfold q1e Sort.partition;simp only [gx (d:=d) (k:=p) q6,gx (d:=d) (k:=a) q6,gxs (d:=d) (k:=p) q6,qn,e1,e2,Int.toNat_natCast,gswp,w,w1p a q6];generalize Sort.swp d a p = D at h ⊢;have ad:=h.1;have r:=qi9 (f:=J3 ((0 : Int),((b - 1 : Nat) : Int),D.toList) (a : Int) q) (fun x=>lt x D[a]!) D (b - 1) (fun k j=>qnt l h q6 q6 _ k j) q6 _ (a + 1) rfl q6;have g1:=Sort.scanUp_ge (fun x=>lt x D[a]!) D (b - 1) (a + 1);generalize Sort.scanUp (fun x=>lt x D[a]!) D (b - 1) (a + 1) = c at r g1 ⊢;have m:=qew (f:=J4 (c : Int) ((0 : Int),(0 : Int),D.toList) (a : Int) q) (fun x=>!lt x D[a]!) D c n q6 (fun k j=>qnu l h q6 q6 _ _ k j) (b - 1) q6;have y:=Sort.scanDown_le (fun x=>!lt x D[a]!) D c (b - 1);generalize Sort.scanDown (fun x=>!lt x D[a]!) D c (b - 1) = g at m y ⊢;simp only [r,m,qn];by_cases s : c > g
  · have t : decide ((c : Int) > (g : Int)) = true:=Qr q6;simp only [Q1 s,t,Q5,gx (d:=D) (k:=a) q6,gx (d:=D) (k:=g) q6,gxs (d:=D) (k:=a) q6,qn,Int.toNat_natCast,gswp]
  · have t : decide ((c : Int) > (g : Int)) = false:=Qs q6;have w2 : w64 ((g : Int) - 1) = ((g - 1 : Nat) : Int):=by rw [Qm q6];omega
    obtain ⟨s3,o,v⟩:=qyd l a n q6 _ (c + 1) (g - 1) _ rfl (h.swp (a:=c) (b:=g) q6 q6) q6 q6 q6;simp only [Q2 s,t,Q4,gx (d:=D) (k:=c) q6,gx (d:=D) (k:=g) q6,gxs (d:=D) (k:=g) q6,qn,Int.toNat_natCast,gswp,w2,w1p c q6,s3];generalize Sort.partLoop lt a (c + 1) (g - 1) (Sort.swp D c g) = R at o v ⊢;have z:=o.1;simp only [gx (d:=R.2) (k:=a) q6,gx (d:=R.2) (k:=R.1) q6,gxs (d:=R.2) (k:=a) q6,qn,gswp]
theorem q10l (l : Y5 q lt P) {b n : Nat} (hb : b≤n) {d : Array T} (hd : AllP n P d) (x y : Int) : ∀ (m i : Nat),b - i = m→1≤i→i≤b→
    loop (Um (b : Int) (x,y,d.toList) q) (i : Int) = some ((Sort.scanSorted lt d b i : Nat) : Int)∧i≤Sort.scanSorted lt d b i∧Sort.scanSorted lt d b i≤b:=by
  have o:=hd.1;have p:=hd.2.1;intro m
  induction m with
  | zero=>
    intro i j hi a;unfold Sort.scanSorted;rw [Q2 (by simp;omega)];have t : decide ((i : Int) < (b : Int)) = false:=Qs q6;exact ⟨Km (by simp only [Um,t,Q4,qn]),Nat.le_refl _,a⟩
  | succ m ih=>
    intro i j hi a;unfold Sort.scanSorted;have t : decide ((i : Int) < (b : Int)) = true:=Qr q6;have w : w64 ((i : Int) - 1) = ((i - 1 : Nat) : Int):=by rw [Qm q6];omega
    obtain ⟨r,h,g⟩:=l d[i]! d[i - 1]! (hd.2.2 _ q6) (hd.2.2 _ q6);by_cases c : lt d[i]! d[i - 1]! = true
    · rw [Q2 (by simp [c])];refine ⟨Km ?_,Nat.le_refl _,a⟩;simp only [Um,t,Q5,w,gx (d:=d) (k:=i) q6,gx (d:=d) (k:=i - 1) q6,qn,h,g,c,Bool.not_true,Q4]
    · have c : lt d[i]! d[i - 1]! = false:=by simpa using c
      rw [Q1 (by simp [c];omega)];have f:=ih (i + 1) q6 q6 q6;refine ⟨?_,q6,f.2.2⟩;rw [Kn (a':=((i + 1 : Nat) : Int)) ?_]
      · exact f.1
      · simp only [Um,t,Q5,w,gx (d:=d) (k:=i) q6,gx (d:=d) (k:=i - 1) q6,qn,h,g,c,Bool.not_false,w1p i q6]
theorem qoz (g : Y5 q lt P) (n : Nat) : ∀ (j : Nat) (d : Array T),AllP n P d→j < n→loop (Un q) ((j : Int),d.toList) = some (Sort.shiftDown lt j d).toList∧AllP n P (Sort.shiftDown lt j d)
  | 0,d,hd,hj=>by
    have t : decide (((0 : Nat) : Int) ≥ 1) = false:=Qs q6
    exact ⟨Km (by simp only [Un,t,Q4];rfl),hd⟩
  | j + 1,d,hd,hj=>by
    have m:=hd.1
    have o:=hd.2.1
    have t : decide (((j + 1 : Nat) : Int) ≥ 1) = true:=Qr q6
    obtain ⟨r,l,f⟩:=g d[j + 1]! d[j]! (hd.2.2 _ hj) (hd.2.2 _ q6)
    unfold Sort.shiftDown
    by_cases c : lt d[j + 1]! d[j]! = true
    · rw [Q2 (by simp [c])]
      have h:=qoz g n j _ (hd.swp (a:=j + 1) (b:=j) hj q6) q6
      refine ⟨?_,h.2⟩
      rw [Kn (a':=((j : Int),(Sort.swp d (j + 1) j).toList)) ?_]
      · exact h.1
      · simp only [Un,t,Q5,gx (d:=d) (k:=j + 1) q6,w1m j q6,gx (d:=d) (k:=j) q6,gxs (d:=d) (k:=j) q6,qn,l,f,c,Bool.not_true,Q4,Int.toNat_natCast,gswp]
    · have c : lt d[j + 1]! d[j]! = false:=by simpa using c
      rw [Q1 (by simp [c])]
      refine ⟨Km ?_,hd⟩
      simp only [Un,t,Q5,gx (d:=d) (k:=j + 1) q6,w1m j q6,gx (d:=d) (k:=j) q6,qn,l,f,c,Bool.not_false]
theorem qp1 (p : Y5 q lt P) {b n : Nat} (hb : b≤n) (c : Int) : ∀ (m j : Nat) (d : Array T),b - j = m→AllP n P d→1≤j→loop (Uo (b : Int) q c) ((j : Int),d.toList) = some (c,(Sort.shiftUp lt b j d).toList)∧AllP n P (Sort.shiftUp lt b j d):=by
  intro m
  induction m with
  | zero=>
    intro j d o hd s;unfold Sort.shiftUp;rw [Q2 q6];have t : decide ((j : Int) < (b : Int)) = false:=Qs q6;exact ⟨Km (by simp only [Uo,t,Q4]),hd⟩
  | succ m ih=>
    intro j d o hd s;have u:=hd.1;have v:=hd.2.1;unfold Sort.shiftUp;rw [Q1 q6];have t : decide ((j : Int) < (b : Int)) = true:=Qr q6;have w : w64 ((j : Int) - 1) = ((j - 1 : Nat) : Int):=by rw [Qm q6];omega
    obtain ⟨r,l,h⟩:=p d[j]! d[j - 1]! (hd.2.2 _ q6) (hd.2.2 _ q6);by_cases f : lt d[j]! d[j - 1]! = true
    · rw [Q2 (by simp [f])];have g:=ih (j + 1) _ q6 (hd.swp (a:=j) (b:=j - 1) q6 q6) q6;refine ⟨?_,g.2⟩;rw [Kn (a':=(((j + 1 : Nat) : Int),(Sort.swp d j (j - 1)).toList)) ?_]
      · exact g.1
      · simp only [Uo,t,Q5,w,gx (d:=d) (k:=j) q6,gx (d:=d) (k:=j - 1) q6,gxs (d:=d) (k:=j - 1) q6,qn,l,h,f,Bool.not_true,Q4,Int.toNat_natCast,gswp,w1p j q6]
    · have f : lt d[j]! d[j - 1]! = false:=by simpa using f
      rw [Q1 (by simp [f])];refine ⟨Km ?_,hd⟩;simp only [Uo,t,Q5,w,gx (d:=d) (k:=j) q6,gx (d:=d) (k:=j - 1) q6,qn,l,h,f,Bool.not_false]
theorem qnw (j : Y5 q lt P) {a b n : Nat} (hb : b≤n) : ∀ (s i : Nat) (d : Array T),s≤5→AllP n P d→a < i→i≤b→
    ∃ m,loop (Zm (b : Int) q (a : Int)) ((i : Int),((5 - s : Nat) : Int),d.toList) = some m∧(match m with | .inl b441=>some (false,b441) | .inr x1=>some x1) = some ((Sort.partialIns lt a b s i d).2,(Sort.partialIns lt a b s i d).1.toList)
  | 0,i,d,hs,hd,hi,hib=>by
    have t : decide (((5 - 0 : Nat) : Int) < 5) = false:=Qs q6
    refine ⟨.inl d.toList,Km (by simp only [Zm,t,Q4]),rfl⟩
  | s + 1,i,d,hs,hd,hi,hib=>by
    have af:=hd.1
    have hn:=hd.2.1
    have t : decide (((5 - (s + 1) : Nat) : Int) < 5) = true:=Qr q6
    rw [Sort.partialIns_succ]
    obtain ⟨p,l1,u1⟩:=q10l j hb hd (i : Int) ((5 - (s + 1) : Nat) : Int) _ i rfl q6 hib
    generalize Sort.scanSorted lt d b i = k at p l1 u1 ⊢
    by_cases z : k = b
    · subst z
      rw [Q1 rfl]
      refine ⟨.inr (true,d.toList),Km ?_,rfl⟩
      simp only [Zm,t,Q5,p,qn,beq_self_eq_true]
    · rw [Q2 z]
      have tk : ((k : Int) == (b : Int)) = false:=by simp;omega
      have w : w64 ((b : Int) - (a : Int)) = ((b - a : Nat) : Int):=wsub q6 q6
      by_cases o : b - a < 50
      · rw [Q1 o]
        have g : decide (((b - a : Nat) : Int) < 50) = true:=Qr q6
        refine ⟨.inr (false,d.toList),Km ?_,rfl⟩
        simp only [Zm,t,Q5,p,qn,tk,Q4,w,g]
      · rw [Q2 o]
        have g : decide (((b - a : Nat) : Int) < 50) = false:=Qs q6
        have wk : w64 ((k : Int) - 1) = ((k - 1 : Nat) : Int):=by rw [Qm q6];omega
        have wa : w64 ((k : Int) - (a : Int)) = ((k - a : Nat) : Int):=wsub q6 q6
        have wb : w64 ((b : Int) - (k : Int)) = ((b - k : Nat) : Int):=wsub q6 q6
        have l:=hd.swp (a:=k) (b:=k - 1) q6 q6
        have down : (cond (decide (((k - a : Nat) : Int) ≥ 2)) ((loop (Un q) (((k - 1 : Nat) : Int),(Sort.swp d k (k - 1)).toList)).bind fun x0=>some x0) (some (Sort.swp d k (k - 1)).toList)) = some (Sort.fixDown lt a k (Sort.swp d k (k - 1))).toList∧AllP n P (Sort.fixDown lt a k (Sort.swp d k (k - 1))):=by
          unfold Sort.fixDown;by_cases h : k - a ≥ 2
          · have f : decide (((k - a : Nat) : Int) ≥ 2) = true:=Qr q6;obtain ⟨x,y⟩:=qoz j n (k - 1) _ l q6;rw [Q1 h,f,Q5,x];exact ⟨rfl,y⟩
          · have f : decide (((k - a : Nat) : Int) ≥ 2) = false:=Qs q6;rw [Q2 h,f,Q4];exact ⟨rfl,l⟩
        obtain ⟨dn,c⟩:=down
        have r : AllP n P (Sort.fixUp lt b k (Sort.fixDown lt a k (Sort.swp d k (k - 1)))):=by
          unfold Sort.fixUp;split
          · exact (qp1 j hb 0 _ (k + 1) _ rfl c q6).2
          · exact c
        obtain ⟨m,u,v⟩:=qnw (a:=a) j hb s k _ q6 r q6 u1
        refine ⟨m,?_,v⟩
        rw [Kn (a':=((k : Int),((5 - s : Nat) : Int),(Sort.fixUp lt b k (Sort.fixDown lt a k (Sort.swp d k (k - 1)))).toList)) ?_]
        · exact u
        · have w5 : w64 (((5 - (s + 1) : Nat) : Int) + 1) = ((5 - s : Nat) : Int):=by rw [Qm q6];omega
          simp only [Zm,t,Q5,p,qn,tk,Q4,w,g,wk,gx (d:=d) (k:=k) q6,gx (d:=d) (k:=k - 1) q6,gxs (d:=d) (k:=k - 1) q6,Int.toNat_natCast,gswp,wa,dn,wb,w1p k q6]
          unfold Sort.fixUp
          by_cases h : b - k ≥ 2
          · have f : decide (((b - k : Nat) : Int) ≥ 2) = true:=Qr q6
            obtain ⟨x,y⟩:=qp1 j hb (k : Int) _ (k + 1) _ rfl c q6
            rw [Q1 h,f,Q5,x]
            simp only [qn,w5]
          · have f : decide (((b - k : Nat) : Int) ≥ 2) = false:=Qs q6
            rw [Q2 h,f,Q4]
            simp only [qn,w5]
theorem qye (f : Y5 q lt P) {a b n : Nat} (hb : b≤n) (h : a < b) {d : Array T} (hd : AllP n P d) :
    Ji q d.toList (a : Int) (b : Int) = some ((Sort.partialInsertionSort lt d a b).2,(Sort.partialInsertionSort lt d a b).1.toList):=by
  have j:=hd.2.1;obtain ⟨m,c,g⟩:=qnw (a:=a) f hb 5 (a + 1) d q6 hd q6 q6;have c : loop (Zm (b : Int) q (a : Int)) (((a + 1 : Nat) : Int),0,d.toList) = some m:=c;unfold Ji Sort.partialInsertionSort;rw [w1p a q6,c];exact g
end
end Go.Sh
namespace Go.Sh
open Go Go.Am
theorem qmp {α β : Type} {f : α→Option (α ⊕ β)} {a : α} (h : f a = none) : loop f a = none:=by
  apply Option.ext;intro b;rw [q9w];constructor
  · rintro ⟨n,c⟩
    cases n with
    | zero=>simp [iter] at c
    | succ n=>simp [iter,h] at c
  · intro h;cases h
section
variable {T : Type} [Inhabited T] {P : T→Prop} {lt : T→T→Bool} {q : T→T→Option Int}
def Srt (lt : T→T→Bool) (a b : Nat) (d : Array T) (o : Option (List T)) : Prop:=∃ d' : Array T,o = some d'.toList∧Sort.PermIn a b d d'∧Sort.SortedIn lt a b d'
theorem qyh (hq : Y5 q lt P) (hS : Sort.SWO lt) {n N : Nat} (af : List T→Int→Int→Int→Option (List T))
    (am : ∀ (a b f : Nat) (d : Array T),AllP n P d→a≤b→b≤n→f≤1000→Sort.Below lt a b d→Srt lt a b d (af d.toList (a : Int) (b : Int) (f : Int))∨(N≤b - a∧af d.toList (a : Int) (b : Int) (f : Int) = none)) :
    ∀ (m a b f : Nat) (wb wp : Bool) (d : Array T),b - a = m→AllP n P d→a≤b→b≤n→f≤1000→Sort.Below lt a b d→
      Srt lt a b d (loop (Zd q af) ((a : Int),(b : Int),(f : Int),wb,wp,d.toList))∨(N + 1≤b - a∧loop (Zd q af) ((a : Int),(b : Int),(f : Int),wb,wp,d.toList) = none):=by
  intro m
  induction m using Nat.strongRecOn with
  | _ m ih=>
    intro a b f wb wp d hm hd o hb hl hB;have df:=hd.1;have hn:=hd.2.1;have e0 : w64 ((b : Int) - (a : Int)) = ((b - a : Nat) : Int):=wsub o q6;by_cases de : b - a≤12
    ·
      have t : decide (((b - a : Nat) : Int)≤12) = true:=Qr q6;obtain ⟨x,y⟩:=Sort.insertionSort_holds (lt:=lt) hS d a b o q6;have s:=qul hq hb o hd;refine .inl ⟨_,Km ?_,x,y⟩;simp only [Zd,e0,t,Q5,s,qn,q1m hd (hd.perm o hb x)]
    have bm : decide (((b - a : Nat) : Int)≤12) = false:=Qs q6;by_cases h0 : f = 0
    ·
      have t : ((f : Int) == 0) = true:=by simp [h0]
      obtain ⟨x,y⟩:=Sort.heapSort_holds (lt:=lt) hS d a b o q6;have s:=qub hq hb (by omega : a < b) hd;refine .inl ⟨_,Km ?_,x,y⟩;simp only [Zd,e0,bm,Q4,t,Q5,s,qn,q1m hd (hd.perm o hb x)]
    have t0 : ((f : Int) == 0) = false:=by simp [h0]
    have hA : ∃ (l1 : Nat) (d1 : Array T),(cond (!wb) ((q1a q d.toList (a : Int) (b : Int)).bind fun ba=>(K5 ba.length d.toList.length).bind fun cw=>some (w64 ((f : Int) - 1),ba)) (some ((f : Int),d.toList))) = some ((l1 : Int),d1.toList)∧l1≤1000∧AllP n P d1∧Sort.PermIn a b d d1:=by
      cases wb with
      | true=>exact ⟨f,d,rfl,hl,hd,Sort.permIn_refl _ _ _⟩
      | false=>
        have x:=Sort.breakPatterns_holds d a b o q6;have z:=hd.perm o hb x;have w : w64 ((f : Int) - 1) = ((f - 1 : Nat) : Int):=by rw [Qm q6];omega
        refine ⟨f - 1,_,?_,q6,z,x⟩;simp only [Bool.not_false,Q5,qr6 (q:=q) hb (by omega : a < b) hd,qn,q1m hd z,w]
    obtain ⟨l1,d1,eA,an,z,p1⟩:=hA;have hC:=qsc hq z (by omega : a < b) hb;obtain ⟨c1,c2⟩:=Sort.choosePivot_holds lt d1 a b q6;generalize (Sort.choosePivot lt d1 a b).1 = c at hC c1 c2;generalize qgz (Sort.choosePivot lt d1 a b).2 = h at hC
    have hR : ∃ (p : Nat) (h2 : Int) (d2 : Array T),(cond (h == 2) ((q1i q d1.toList (a : Int) (b : Int)).bind fun bd=>(K5 bd.length d1.toList.length).bind fun cs=>some (w64 ((w64 ((b : Int) - 1)) - (w64 ((c : Int) - (a : Int)))),(1 : Int),bd)) (some ((c : Int),h,d1.toList))) = some ((p : Int),h2,d2.toList)∧a≤p∧p < b∧AllP n P d2∧Sort.PermIn a b d1 d2:=by
      cases hh : (h == 2) with
      | false=>exact ⟨c,h,d1,rfl,c1,c2,z,Sort.permIn_refl _ _ _⟩
      | true=>
        have x:=Sort.reverseRange_holds d1 a b o (by rw [z.1];exact hb);have ac:=z.perm o hb x;have w1 : w64 ((b : Int) - 1) = ((b - 1 : Nat) : Int):=by rw [Qm q6];omega
        have w2 : w64 ((c : Int) - (a : Int)) = ((c - a : Nat) : Int):=wsub c1 q6;have w3 : w64 (((b - 1 : Nat) : Int) - ((c - a : Nat) : Int)) = ((b - 1 - (c - a) : Nat) : Int):=wsub q6 q6;refine ⟨b - 1 - (c - a),1,_,?_,q6,q6,ac,x⟩;simp only [Q5,q10f (q:=q) hb (by omega : a < b) z,qn,q1m z ac,w1,w2,w3]
    obtain ⟨p,h2,d2,eR,hp1,hp2,ac,p2⟩:=hR;have bv : Sort.Below lt a b d2:=(hB.perm q6 p1).perm (by rw [z.1];exact hb) p2;have bp:=Sort.permIn_trans _ _ _ a b p1 p2
    have hP : ∀ cc : Bool,∃ ab : (List T) ⊕ (List T),(cond cc ((Ji q d2.toList (a : Int) (b : Int)).bind fun ag=>(K5 ag.2.length d2.toList.length).bind fun dd=>cond ag.1 (some (.inr ag.2)) (some (.inl ag.2))) (some (.inl d2.toList)) : Option ((List T) ⊕ (List T))) = some ab∧
        ((∃ l : Array T,ab = .inr l.toList∧Sort.PermIn a b d2 l∧Sort.SortedIn lt a b l)∨(∃ l : Array T,ab = .inl l.toList∧AllP n P l∧Sort.PermIn a b d2 l)):=by
      intro cc
      cases cc with
      | false=>exact ⟨_,rfl,.inr ⟨d2,rfl,ac,Sort.permIn_refl _ _ _⟩⟩
      | true=>
        obtain ⟨x,y⟩:=Sort.partialInsertionSort_holds (lt:=lt) hS d2 a b q6 (by rw [ac.1];exact hb) bv;have u:=ac.perm o hb x;have s:=qye hq hb (by omega : a < b) ac;simp only [Q5,s,qn,q1m ac u]
        cases hz : (Sort.partialInsertionSort lt d2 a b).2 with
        | true=>exact ⟨_,rfl,.inl ⟨_,rfl,x,y hz⟩⟩
        | false=>exact ⟨_,rfl,.inr ⟨_,rfl,u,x⟩⟩
    obtain ⟨ab,eP,br⟩:=hP (wb && wp && (h2 == 1))
    have co : ∀ {γ : Type} (X : Bool→Option γ),((cond wb (some wp) (some false)).bind fun bt=>(cond bt (some (h2 == 1)) (some false)).bind X) = X (wb && wp && (h2 == 1)):=by
      intro γ X;cases wb <;> cases wp <;> rfl
    have head : Zd q af ((a : Int),(b : Int),(f : Int),wb,wp,d.toList) = (match (generalizing:=false) ab with | .inl b377=>(cond (decide ((a : Int) > 0)) ((idx b377 (w64 ((a : Int) - 1))).bind fun av=>(idx b377 (p : Int)).bind fun ao=>(q av ao).bind fun ar=>some (!(decide (ar < 0)))) (some false)).bind fun bq=>cond bq ((q1f q b377 (a : Int) (b : Int) (p : Int)).bind fun al=>(K5 al.2.length b377.length).bind fun dc=>some (.inl (al.1,(b : Int),(l1 : Int),wb,wp,al.2))) ((q1e q b377 (a : Int) (b : Int) (p : Int)).bind fun g=>(K5 g.2.2.length b377.length).bind fun cr=>cond (decide ((w64 (g.1 - (a : Int))) < (w64 ((b : Int) - g.1)))) ((af g.2.2 (a : Int) g.1 (l1 : Int)).bind fun az=>(K5 az.length g.2.2.length).bind fun cz=>some (.inl (w64 (g.1 + 1),(b : Int),(l1 : Int),decide ((w64 (g.1 - (a : Int))) ≥ (w64 (Int.tdiv ((b - a : Nat) : Int) 8))),g.2.1,az))) ((af g.2.2 (w64 (g.1 + 1)) (b : Int) (l1 : Int)).bind fun bc=>(K5 bc.length g.2.2.length).bind fun cy=>some (.inl ((a : Int),g.1,(l1 : Int),decide ((w64 ((b : Int) - g.1)) ≥ (w64 (Int.tdiv ((b - a : Nat) : Int) 8))),g.2.1,bc)))) | .inr x1=>some (.inr x1)):=by
      simp only [Zd,e0,bm,Q4,t0,eA,qn,hC,eR,co,eP]
      all_goals (clear eP br hP am ih;cases ab <;> rfl)
    rcases br with ⟨l,rfl,x,y⟩ | ⟨l,rfl,u,p3⟩
    · refine .inl ⟨l,Km ?_,Sort.permIn_trans _ _ _ a b bp x,y⟩;rw [head]
    have ax:=u.1;have P3:=Sort.permIn_trans _ _ _ a b bp p3;have B3 : Sort.Below lt a b l:=bv.perm (by rw [ac.1];exact hb) p3
    have bh : (cond (decide ((a : Int) > 0)) ((idx l.toList (w64 ((a : Int) - 1))).bind fun av=>(idx l.toList (p : Int)).bind fun ao=>(q av ao).bind fun ar=>some (!(decide (ar < 0)))) (some false)) = some (decide (a > 0) && !lt l[a - 1]! l[p]!):=by
      by_cases ha : a > 0
      · have ta : decide ((a : Int) > 0) = true:=Qr q6;have w : w64 ((a : Int) - 1) = ((a - 1 : Nat) : Int):=by rw [Qm q6];omega
        obtain ⟨r,h1,h2⟩:=hq l[a - 1]! l[p]! (u.2.2 _ q6) (u.2.2 _ q6);simp only [ta,Q5,w,gx (d:=l) (k:=a - 1) q6,gx (d:=l) (k:=p) q6,qn,h1,h2,Qr ha,Bool.true_and]
      · have ta : decide ((a : Int) > 0) = false:=Qs q6;simp only [ta,Q4,Qs ha,Bool.false_and]
    simp only [bh,qn] at head;by_cases hc : (decide (a > 0) && !lt l[a - 1]! l[p]!) = true
    ·
      rw [hc] at head;have s:=qyf hq hb (by omega : a < b) (by omega : p < n) u;simp only [Bool.and_eq_true,decide_eq_true_eq,Bool.not_eq_true'] at hc
      cases hx : Sort.partitionEqual lt l a b p with
      | mk j d4=>
        obtain ⟨g1,g2,cb,cm,ad⟩:=Sort.round_eq hS (Sort.partitionEqual_holds lt) hc.1 hp1 hp2 (by rw [ax];exact hb) B3 hc.2 hx
        have cf : ∀ i,a≤i→i < b→lt l[i]! l[p]! = false:=fun i hi ca=>by
          rcases B3 with h0 | hB
          · omega
          · exact hS.ntrans _ _ _ (hB i hi ca) hc.2
        obtain ⟨_,_,v,_,_⟩:=Sort.partitionEqual_holds lt hS l a b p hp1 hp2 (by rw [ax];exact hb) cf;rw [hx] at v s;have aa:=u.perm o hb v;simp only [Q5,s,qn,q1m u aa] at head;rw [Kn head];rcases ih (b - j) q6 j b l1 wb wp d4 rfl aa g2 hb an cm with ⟨R,r0,r1,r2⟩ | ⟨r1,r2⟩
        · obtain ⟨q1,q2⟩:=ad _ r1 r2;exact .inl ⟨R,r0,Sort.permIn_trans _ _ _ a b P3 q1,q2⟩
        · exact .inr ⟨q6,r2⟩
    ·
      have hc : (decide (a > 0) && !lt l[a - 1]! l[p]!) = false:=by simpa using hc
      rw [hc] at head;have s:=qyg hq hb (by omega : a < b) (by omega : p < n) u
      cases hx : Sort.partition lt l a b p with
      | mk j r=>
      cases r with
      | mk ap d4=>
        obtain ⟨g1,g2,cb,bz,ce,bg,ay⟩:=Sort.round_part hS (Sort.partition_holds lt) hp1 hp2 (by rw [ax];exact hb) B3 hx;obtain ⟨_,_,v,_,_⟩:=Sort.partition_holds lt hS l a b p hp1 hp2 (by rw [ax];exact hb);rw [hx] at v s;have aa:=u.perm o hb v;have w1 : w64 ((j : Int) - (a : Int)) = ((j - a : Nat) : Int):=wsub g1 q6;have w2 : w64 ((b : Int) - (j : Int)) = ((b - j : Nat) : Int):=wsub q6 q6;simp only [Q4,s,qn,q1m u aa,w1,w2,w1p j q6] at head;by_cases dl : j - a < b - j
        · have tl : decide (((j - a : Nat) : Int) < ((b - j : Nat) : Int)) = true:=Qr q6;simp only [tl,Q5] at head;rcases am a j l1 d4 aa g1 q6 an bz with ⟨L,e,aq,bj⟩ | ⟨r1,r2⟩
          · have au:=aa.perm g1 q6 aq;obtain ⟨bk,ad⟩:=bg _ aq bj;simp only [e,qn,q1m aa au] at head;rw [Kn head];rcases ih (b - (j + 1)) q6 (j + 1) b l1 _ _ L rfl au q6 hb an bk with ⟨R,r0,r1,r2⟩ | ⟨r1,r2⟩
            · obtain ⟨q1,q2⟩:=ad _ r1 r2;exact .inl ⟨R,r0,Sort.permIn_trans _ _ _ a b P3 q1,q2⟩
            · exact .inr ⟨q6,r2⟩
          · simp only [r2,Option.bind_none] at head;exact .inr ⟨q6,qmp head⟩
        · have tl : decide (((j - a : Nat) : Int) < ((b - j : Nat) : Int)) = false:=Qs q6;simp only [tl,Q4] at head;rcases am (j + 1) b l1 d4 aa q6 hb an ce with ⟨L,e,aq,bj⟩ | ⟨r1,r2⟩
          · have au:=aa.perm (by omega : j + 1≤b) hb aq;obtain ⟨bk,ad⟩:=ay _ aq bj;simp only [e,qn,q1m aa au] at head;rw [Kn head];rcases ih (j - a) q6 a j l1 _ _ L rfl au g1 q6 an bk with ⟨R,r0,r1,r2⟩ | ⟨r1,r2⟩
            · obtain ⟨q1,q2⟩:=ad _ r1 r2;exact .inl ⟨R,r0,Sort.permIn_trans _ _ _ a b P3 q1,q2⟩
            · exact .inr ⟨q6,r2⟩
          · simp only [r2,Option.bind_none] at head;exact .inr ⟨q6,qmp head⟩
theorem qnx (f : Y5 q lt P) (g : Sort.SWO lt) {n : Nat} : ∀ (N a b c : Nat) (d : Array T),AllP n P d→a≤b→b≤n→c≤1000→Sort.Below lt a b d→
    Srt lt a b d (Zc N q d.toList (a : Int) (b : Int) (c : Int))∨(N≤b - a∧Zc N q d.toList (a : Int) (b : Int) (c : Int) = none)
  | 0,a,b,c,d,_,_,_,_,_=>.inr ⟨q6,rfl⟩
  | N + 1,a,b,c,d,hd,hab,hb,hl,hB=>by
    have h:=qyh f g (N:=N) (Zc N q) (fun a b c d m j k l o=>qnx f g N a b c d m j k l o) _ a b c true true d rfl hd hab hb hl hB
    have e : Zc (N + 1) q d.toList (a : Int) (b : Int) (c : Int) = loop (Zd q (Zc N q)) ((a : Int),(b : Int),(c : Int),true,true,d.toList):=by
      show U0 (Zc N q) q d.toList (a : Int) (b : Int) (c : Int) = _;unfold U0;cases loop (Zd q (Zc N q)) ((a : Int),(b : Int),(c : Int),true,true,d.toList) <;> rfl
    rw [e]
    exact h
theorem qim (t : Y5 q lt P) (w : Sort.SWO lt) (xs : List T) (n : xs.length≤1000000) (v : ∀ x∈xs,P x) :
    ∃ ys,q19 q xs = some ys∧ys.Perm xs∧ys.Pairwise (fun x y=>lt y x = false):=by
  have hd : AllP xs.length P xs.toArray:=by
    refine ⟨qg,n,fun i hi=>?_⟩;have : xs.toArray[i]! = xs[i]:=by simp [hi]
    rw [this];exact v _ (Kf hi)
  have hk : Sort.bitsLen xs.length≤20:=(Sort.bitsLen_le_iff _ 20).2 q6;have c : ∀ N,_:=fun N=>qnx t w N 0 xs.length (Sort.bitsLen xs.length) xs.toArray hd q6 q6 q6 (.inl rfl);have z:=c (xs.length + 1);rcases z with ⟨d',e,_,_⟩ | ⟨h,_⟩
  · obtain ⟨r,o⟩:=qv0 (f:=fun N=>Zc N q xs 0 (xs.length : Int) ((Sort.bitsLen xs.length : Nat) : Int)) e;obtain ⟨N,g⟩:=qe4 o;have g : Zc N q xs 0 (xs.length : Int) ((Sort.bitsLen xs.length : Nat) : Int) = some r:=g;rcases c N with ⟨a,b,x,y⟩ | ⟨_,b⟩
    · have b : Zc N q xs 0 (xs.length : Int) ((Sort.bitsLen xs.length : Nat) : Int) = some a.toList:=b;rw [g] at b;obtain rfl : r = a.toList:=qd9 b;have d : a.size = xs.length:=by rw [x.1];simp
      refine ⟨a.toList,?_,?_,?_⟩
      · unfold q19;rw [q34,show ((xs.length : Int) % 18446744073709551616) = (xs.length : Int) by omega,qmn _ n];simp only [qn,o];unfold K5;rw [Q1 (by simp [d])];rfl
      · have:=x.2.2;have s : a.extract 0 xs.length = a:=by rw [← d];simp
        have p : xs.toArray.extract 0 xs.length = xs.toArray:=by simp
        rw [s,p] at this;exact this
      · rw [List.pairwise_iff_getElem];intro i j hi u k;have l : i < a.size:=by simpa using hi
        have m : j < a.size:=by simpa using u
        have:=y i j q6 k q6;rw [getElem!_pos a i l,getElem!_pos a j m] at this;simpa using this
    · have b : Zc N q xs 0 (xs.length : Int) ((Sort.bitsLen xs.length : Nat) : Int) = none:=b;rw [g] at b;cases b
  · omega
end
end Go.Sh
