/- St26 St27 St39 St40 -/
import Derived.Test.YtgkialgkmjnfbaaGreatK14
namespace Go.Sh
open Go Go.Am
abbrev pq (x y : Int) : qa:={X:=x,Y:=y}
abbrev sg (a b c d : Int) : qt:={A:=pq a b,B:=pq c d}
abbrev ed (a b : Int) : qg:={A:=a,B:=b}
def n4 : Qd:={Nodes:=[pq 0 0,pq 2 0,pq 2 3,pq 4 0],Edges:=[ed 0 1,ed 1 2,ed 1 3]}
def n5 : Qd:={Nodes:=[pq 0 0,pq 2 (-1),pq 2 0,pq 2 3,pq 4 0],Edges:=[ed 0 2,ed 1 2,ed 2 3,ed 2 4]}
def n6 : Qd:={Nodes:=[pq 0 0,pq 2 0,pq 2 2,pq 4 0],Edges:=[ed 0 1,ed 1 2,ed 1 3]}
def n2 : Qd:={Nodes:=[pq 0 0,pq 4 0],Edges:=[ed 0 1]}
theorem net4 : netB [sg 0 0 4 0,sg 2 0 2 3] n4 = true:=by decide +kernel
theorem net5 : netB [sg 0 0 4 0,sg 2 3 2 0,sg 2 (-1) 2 0] n5 = true:=by decide +kernel
theorem net6 : netB [sg 0 0 4 0,sg 2 2 2 0] n6 = true:=by decide +kernel
theorem net2 : netB [sg 0 0 2 0,sg 2 0 4 0] n2 = true:=by decide +kernel
theorem q8d {l : List qt} {n : Qd} (h : netB l n = true) : q2x n l = some true:=by
  obtain ⟨_,_,b,hs,e⟩:=q20 h;obtain ⟨c1,_,_,_⟩:=qdi hs.fit hs;unfold q2x;have a:=qn7 n n (by have:=hs.fit.1.1;omega) (by have:=hs.fit.1.2;omega);simp only [e,qr,a,decide_true,c1,beq_self_eq_true,Qb]
open Classical in
theorem qiw (l : List qt) (p : qa) : degN l p = b2z (rowB l p.Y p.X) + b2z (colB l p.X p.Y) + b2z (rowB l p.Y (p.X - 1)) + b2z (colB l p.X (p.Y - 1)):=by
  have e : ∀ {b : Bool} {P : Prop},(b = true↔P)→decide P = b:=by
    intro b P h;cases b
    · exact Qa (fun hp=>by have:=h.2 hp;cases this)
    · exact Q9 (h.1 rfl)
  unfold degN;rw [e q90,e q7o,e q90,e q7o]
theorem qix {l : List qt} {n : Qd} (h : netB l n = true) {i : Nat} (hi : i < n.Nodes.length) : Um n (i : Int) = some (degN l n.Nodes[i],0):=by
  obtain ⟨c,f,a,hs,e⟩:=q20 h;have hb:=qi3 (show l.length≤400 by omega) c;rw [(qqx hs.fit hs hi).1];have d : rowP (U8 n) = rowP l:=by funext y x;exact propext (qj6 hb a y x)
  have b : colP (U8 n) = colP l:=by funext y x;exact propext (qj5 hb a y x)
  unfold degN;rw [d,b]
def w1 : Ka:={At:=pq 0 0,Head:=0,Steps:=4}
def w2 : Ka:={At:=pq 2 2,Head:=3,Steps:=9}
def V4 : List (qa × Bool):=[(pq 0 0,true),(pq 1 0,true),(pq 2 0,true),(pq 3 0,true),(pq 4 0,true)]
theorem pb {x y : Int} (h : -1000≤x∧x≤1000∧-1000≤y∧y≤1000) : PtB {X:=x,Y:=y}:=by unfold PtB;simp only;omega
theorem q13c : q3a [] w1 [] [] = some (0,V4,[sg 0 0 4 0]):=by
  have s0 : Z5 w1 [] (0,0,[],[],0,0) = some (.inl (0,1,[(pq 0 0,true),(pq 1 0,true)],[sg 0 0 1 0],1,0)):=(qof w1 (h:=0) (d:=pq 1 0) q8 rfl qq (pq 0 0) (pb qq) (pb qq) [] [] qd).trans rfl;have s1 : Z5 w1 [] (0,1,[(pq 0 0,true),(pq 1 0,true)],[sg 0 0 1 0],1,0) = some (.inl (0,2,[(pq 0 0,true),(pq 1 0,true),(pq 2 0,true)],[sg 0 0 2 0],2,0)):=(qdr w1 (h:=0) (d:=pq 1 0) q8 rfl (k:=1) q8 qq q8 (pq 1 0) (pb qq) (pb qq) [(pq 0 0,true),(pq 1 0,true)] [] (sg 0 0 1 0) qd).trans rfl;have c : Z5 w1 [] (0,2,[(pq 0 0,true),(pq 1 0,true),(pq 2 0,true)],[sg 0 0 2 0],2,0) = some (.inl (0,3,[(pq 0 0,true),(pq 1 0,true),(pq 2 0,true),(pq 3 0,true)],[sg 0 0 3 0],3,0)):=(qdr w1 (h:=0) (d:=pq 1 0) q8 rfl (k:=2) q8 qq q8 (pq 2 0) (pb qq) (pb qq) [(pq 0 0,true),(pq 1 0,true),(pq 2 0,true)] [] (sg 0 0 2 0) qd).trans rfl;have a : Z5 w1 [] (0,3,[(pq 0 0,true),(pq 1 0,true),(pq 2 0,true),(pq 3 0,true)],[sg 0 0 3 0],3,0) = some (.inl (0,4,V4,[sg 0 0 4 0],4,0)):=(qdr w1 (h:=0) (d:=pq 1 0) q8 rfl (k:=3) q8 qq q8 (pq 3 0) (pb qq) (pb qq) [(pq 0 0,true),(pq 1 0,true),(pq 2 0,true),(pq 3 0,true)] [] (sg 0 0 3 0) qd).trans rfl;have b : Z5 w1 [] (0,4,V4,[sg 0 0 4 0],4,0) = some (.inr (.inl (V4,[sg 0 0 4 0]))):=rfl;unfold q3a;show (loop (Z5 w1 []) (0,0,[],[],0,0)).bind _ = _;rw [Kf s0,Kf s1,Kf c,Kf a,Kc b];rfl
theorem q13d : ∃ V,q3a [] w2 [sg 0 0 4 0] V4 = some (0,V,[sg 0 0 4 0,sg 2 2 2 0]):=by
  have s0 : Z5 w2 [] (3,0,V4,[sg 0 0 4 0],2,2) = some (.inl (3,1,V4 ++ [(pq 2 2,true),(pq 2 1,true)],[sg 0 0 4 0,sg 2 2 2 1],2,1)):=(qof w2 (h:=3) (d:=pq 0 (-1)) q8 rfl qq (pq 2 2) (pb qq) (pb qq) V4 [sg 0 0 4 0] qd).trans rfl;have s1 : Z5 w2 [] (3,1,V4 ++ [(pq 2 2,true),(pq 2 1,true)],[sg 0 0 4 0,sg 2 2 2 1],2,1) = some (.inr (.inl (V4 ++ [(pq 2 2,true),(pq 2 1,true)],[sg 0 0 4 0,sg 2 2 2 0]))):=(qdr w2 (h:=3) (d:=pq 0 (-1)) q8 rfl (k:=1) q8 qq q8 (pq 2 1) (pb qq) (pb qq) (V4 ++ [(pq 2 2,true),(pq 2 1,true)]) [sg 0 0 4 0] (sg 2 2 2 1) qd).trans rfl;refine ⟨V4 ++ [(pq 2 2,true),(pq 2 1,true)],?_⟩;unfold q3a;show (loop (Z5 w2 []) (3,0,V4,[sg 0 0 4 0],2,2)).bind _ = _;rw [Kf s0,Kc s1];rfl
theorem qt8 : Z4 [] [w1,w2] = some (n6,0):=by
  obtain ⟨V,j⟩:=q13d;have c : q36 [w1,w2] 0 = some (.inl 1):=rfl;have f : q36 [w1,w2] 1 = some (.inl 2):=rfl;have g : q36 [w1,w2] 2 = some (.inr (.inl ())):=rfl;have e0 : ((0 : Int) != 0) = false:=rfl
  have d : Jl [w1,w2] [] (0,[],[]) = some (.inl (1,[sg 0 0 4 0],V4)):=by
    unfold Jl;have b : decide ((0 : Int) < (([w1,w2] : List Ka).length : Int)) = true:=rfl;have a : idx [w1,w2] 0 = some w1:=rfl;simp only [b,Qb,a,qr,q13c,e0,Q6];rfl
  have b1 : Jl [w1,w2] [] (1,[sg 0 0 4 0],V4) = some (.inl (2,[sg 0 0 4 0,sg 2 2 2 0],V)):=by
    unfold Jl;have b : decide ((1 : Int) < (([w1,w2] : List Ka).length : Int)) = true:=rfl;have a : idx [w1,w2] 1 = some w2:=rfl;simp only [b,Qb,a,qr,j,e0,Q6];rfl
  have b2 : Jl [w1,w2] [] (2,[sg 0 0 4 0,sg 2 2 2 0],V) = some (.inr (.inl [sg 0 0 4 0,sg 2 2 2 0])):=rfl;unfold Z4;have h : decide ((([w1,w2] : List Ka).length : Int) > 30) = false:=rfl;rw [qjm,qr,e0,Q6,h,Q6,Kf c,Kf f,Kc g];simp only [qr];rw [Kf d,Kf b1,Kc b2];simp only [qr];rw [(q20 net6).2.2.2.2];rfl
theorem qtk : q8z n5.Nodes (pq 2 0) = some 2:=by
  have b : q66 n5.Nodes (pq 2 0) 0 = some (.inl 1):=rfl;have a : q66 n5.Nodes (pq 2 0) 1 = some (.inl 2):=rfl;have c : q66 n5.Nodes (pq 2 0) 2 = some (.inr (.inr 2)):=rfl;unfold q8z;rw [Kf b,Kf a,Kc c];rfl
theorem len4 : q79 n4 = some (7,0):=by
  obtain ⟨_,_,f,hs,_⟩:=q20 net4;obtain ⟨a,c,e1,_,b,h⟩:=qu4 hs.fit;have d:=h _ hs;obtain ⟨c1,_,_,_⟩:=qdi hs.fit hs;rw [b] at c1;cases c1;have : Yw (U8 n4) = 7:=by rfl
  rw [e1,d,this]
theorem qoq : q88 = some true:=by
  have d : Um n4 1 = some (3,0):=by
    have:=qix net4 (i:=1) qq;rw [qiw] at this;exact this
  have k : Um n5 2 = some (4,0):=by
    have:=qix net5 (i:=2) qq;rw [qiw] at this;exact this
  have l:=(q20 net5).2.2.2.2;have g:=q8d net4;have c:=q8d net2;have j:=qtk;have b:=len4;have f:=qt8;have a:=qn7 n6 n6 qq qq;unfold n4 at d g b;unfold w1 w2 at f;unfold n2 at c;unfold q88;simp only [Qx,Z9,qr,d,b,l,j,k,f,g,c,beq_self_eq_true,Qb]
  have h : q4m n6 {Nodes:=[{X:=0,Y:=0},{X:=2,Y:=0},{X:=2,Y:=2},{X:=4,Y:=0}],Edges:=[{A:=0,B:=1},{A:=1,B:=2},{A:=1,B:=3}]} = some true:=by
    have:=a;rw [Q9 rfl] at this;exact this
  rw [h];rfl
end Go.Sh
namespace Go.Sh
open Go Go.Am
end Go.Sh
namespace Go.Sh
open Go Go.Am
open Classical in
theorem qr1 {n : Qd} {l : List qt} (h : ∀ e∈n.Edges,eOk n e) (a : n.Edges.map (J0 n) = l) : Ut n = (l,true):=by
  unfold Ut;rw [qu h,a]
def eB (n : Qd) (e : qg) : Bool:=decide (0≤e.A∧e.A < n.Nodes.length) && decide (0≤e.B∧e.B < n.Nodes.length) && segB {A:=(n.Nodes[e.A.toNat]?).getD ⟨0,0⟩,B:=(n.Nodes[e.B.toNat]?).getD ⟨0,0⟩}
theorem qr3 {n : Qd} {e : qg} (h : eB n e = true) : eOk n e:=by
  simp only [eB,Bool.and_eq_true,decide_eq_true_eq] at h;exact ⟨h.1.1,h.1.2,qng h.2⟩
theorem qef {n m : Qd} {l : List qt} (p : n.Nodes.length≤100) (q : n.Edges.length≤100) (h : n.Edges.all (eB n) = true) (f : n.Edges.map (J0 n) = l) (hb : netB l m = true) (b : m≠n) : Yg n = some 8:=by
  obtain ⟨k,j,a,_,_⟩:=q20 hb;have c : ∀ e∈n.Edges,eOk n e:=fun e g=>qr3 (List.all_eq_true.1 h e g);unfold Yg;rw [Qa (show ¬ (n.Nodes.length : Int) > 400 by omega),Q6,Qa (show ¬ (n.Edges.length : Int) > 800 by omega),qr,Q6,q7u n q8,qr1 c f,qr];have:=a.nlen;have:=a.elen;rcases qd0 (l:=l) q8 k with ⟨o,e1,d⟩ | ⟨_,d⟩
  · rw [d.uniq a] at e1;rw [Bool.not_true,Q6,e1,qr,Bool.not_true,Q6,qgn m n q8 q8,qr]
    open Classical in rw [Qa b]
    rfl
  · have:=d.not a.nodes;omega
theorem qie {n : Qd} (d : n.Nodes.length≤100) (c : n.Edges.length≤100) {e : qg} (a : e∈n.Edges) (h : ¬ eOk n e) : Yg n = some 8:=by
  have hd : Ut n = ([],false):=by unfold Ut;rw [qw (fun b=>h (b e a))]
  unfold Yg;rw [Qa (show ¬ (n.Nodes.length : Int) > 400 by omega),Q6,Qa (show ¬ (n.Edges.length : Int) > 800 by omega),qr,Q6,q7u n q8,hd,qr];rfl
theorem qq5 {n : Qd} (a : 400 < n.Nodes.length) : Yg n = some 4:=by
  unfold Yg;rw [Q9 (show (n.Nodes.length : Int) > 400 by omega)];rfl
theorem qfk {s : qt} (h : ¬ SegV s) : Zf [s] = some (net0,8):=by
  unfold Zf;rw [(qky [s] qd).1,qw (fun a=>h (a s qd))];rfl
theorem qui {l : List qt} (h : 400 < l.length) : Zf l = some (net0,4):=by
  unfold Zf;rw [Q9 (show (l.length : Int) > 400 by omega)];rfl
theorem qqw {l : List qt} {n : Qd} (h : netB l n = true) {i : Int} (hi : n.Nodes.length≤i) : Um n i = some (0,6):=by
  obtain ⟨_,_,a,hs,_⟩:=q20 h;obtain ⟨_,c2,_,_⟩:=qdi hs.fit hs;have e0 : ((0 : Int) != 0) = false:=rfl;unfold Um;rw [c2,qr,e0,Q6,Qa (show ¬ i < 0 by omega),Q6,Q9 (show i ≥ (n.Nodes.length : Int) by omega)];rfl
theorem qfb {l : List qt} {n : Qd} (h : netB l n = true) (p : qa) : q1d n p = some (anyB (U8 n) p,0):=by
  obtain ⟨_,_,f,hs,_⟩:=q20 h;obtain ⟨b,c,d,_,_,a⟩:=qfc hs.fit p;obtain ⟨rfl,rfl⟩:=a _ hs;rw [d,qos]
def q5g : List K9:=[{At:=pq 0 0,Kind:=3,Weight:=1,Reach:=9}]
def qhd : Ka:={At:=pq 1 0,Head:=1,Steps:=500}
def qnc : List qt:=[sg 1 0 1 2,sg 1 2 (-3) 2,sg (-3) 2 (-3) (-4),sg (-3) (-4) 5 (-4),sg 5 (-4) 5 6,sg 5 6 (-7) 6,sg (-7) 6 (-7) (-8),sg (-7) (-8) 9 (-8),sg 9 (-8) 9 420]
def qlh : Qd:={Nodes:=[pq (-7) (-8),pq (-7) 6,pq (-3) (-4),pq (-3) 2,pq 1 0,pq 1 2,pq 5 (-4),pq 5 6,pq 9 (-8),pq 9 420],Edges:=[ed 0 1,ed 0 8,ed 1 7,ed 2 3,ed 2 6,ed 3 5,ed 4 5,ed 6 7,ed 8 9]}
theorem qv3 : netB qnc qlh = true:=by decide +kernel
set_option maxRecDepth 100000 in
theorem qtc : Jw q5g [qhd] [] = (0,qnc):=by decide +kernel
theorem qjl : Jt q5g = 0:=by
  unfold Jt;rw [qw qq,qu];intro v a;unfold q5g at a;rw [List.mem_singleton] at a;subst a;exact ⟨qq,pb qq,qq,qq⟩
theorem qjk : Jt [] = 0:=by
  unfold Jt;rw [qw qq,qu (fun v a=>by cases a)]
theorem qzb : Z4 q5g [qhd] = some (qlh,0):=by
  rw [(qci q5g [qhd] (fun w a=>by rw [List.mem_singleton] at a;subst a;decide)).1];unfold q5k;rw [qw (by rw [qjl];simp),qw qq,qu,qtc,qu rfl,(q20 qv3).2.2.2.2];intro w a;rw [List.mem_singleton] at a;subst a;exact ⟨pb qq,qq,qq⟩
theorem qtb {l : List K9} (c : Jt l = 0) {a : List Ka} (b : ∀ w∈a,0≤w.Head) (h : 30 < a.length) : Z4 l a = some (net0,4):=by
  rw [(qci l a b).1];unfold q5k;rw [qw (by rw [c];simp),qu h]
theorem qk7 {w : Ka} (b : 0≤w.Head) (h : ¬ q2c w) : Z4 [] [w] = some (net0,8):=by
  rw [(qci [] [w] (fun v a=>by rw [List.mem_singleton] at a;subst a;exact b)).1];unfold q5k;rw [qw (by rw [qjk];simp),qw qd,qw (fun c=>h (c w qd))]
theorem qk8 {w : Ka} (h : q2c w) {c : Int} {l : List qt} (e : Jw [] [w] [] = (c,l)) : Z4 [] [w] = if c = 0 then Zf l else some (net0,c):=by
  rw [(qci [] [w] (fun v a=>by rw [List.mem_singleton] at a;subst a;exact h.head.1)).1];unfold q5k;rw [qw (by rw [qjk];simp),qw qd,qu (fun v a=>by rw [List.mem_singleton] at a;subst a;exact h),e]
theorem qfw : netB [] net0 = true:=by decide
def qut : Qd:={Nodes:=[pq 0 0,pq 0 2,pq 2 0,pq 2 2],Edges:=[ed 0 1,ed 0 2,ed 1 3,ed 2 3]}
def qus : Qd:={Nodes:=[pq (-1) 0,pq 0 (-1),pq 0 0,pq 0 1,pq 1 0],Edges:=[ed 0 2,ed 1 2,ed 2 3,ed 2 4]}
theorem qv2 : netB [sg 0 0 2 0,sg 2 0 2 2,sg 0 2 2 2,sg 0 2 0 0] qut = true:=by decide +kernel
theorem quz : netB [sg (-1) 0 1 0,sg 0 1 0 (-1),sg 0 0 1 0] qus = true:=by decide +kernel
def quw : Qd:={Nodes:=[pq 0 0,pq 2 0,pq 2 3,pq 4 0],Edges:=[ed 1 0,ed 1 2,ed 1 3]}
def qlg : Qd:={Nodes:=[pq 0 0,pq 2 0,pq 2 3,pq 4 0,pq 9 9],Edges:=[ed 0 1,ed 1 2,ed 1 3]}
def quv : Qd:={Nodes:=[pq 0 0,pq 2 0,pq 3 0,pq 4 0],Edges:=[ed 0 1,ed 1 2,ed 1 3]}
def quu : Qd:={Nodes:=[pq 0 0,pq 2 0,pq 2 3,pq 4 0],Edges:=[ed 0 1,ed 1 1]}
theorem qqb : Yg quw = some 8:=qef (m:=n4) (l:=[sg 2 0 0 0,sg 2 0 2 3,sg 2 0 4 0]) qq qq (by decide +kernel) rfl (by decide +kernel) qq
theorem qq8 : Yg qlg = some 8:=qef (m:=n4) (l:=[sg 0 0 2 0,sg 2 0 2 3,sg 2 0 4 0]) qq qq (by decide +kernel) rfl (by decide +kernel) qq
theorem qqa : Yg quv = some 8:=qef (m:=n2) (l:=[sg 0 0 2 0,sg 2 0 3 0,sg 2 0 4 0]) qq qq (by decide +kernel) rfl (by decide +kernel) qq
theorem qq9 : Yg quu = some 8:=qie (e:=ed 1 1) qq qq qq fun h=>by
  have b : SegV (sg 2 0 2 0):=h.2.2
  rcases b.or with ⟨_,a⟩ | ⟨a,_⟩
  · exact a rfl
  · exact a rfl
theorem qq7 : Yg {Nodes:=[],Edges:=[ed 0 1]} = some 8:=qie (e:=ed 0 1) qq qq qq fun h=>by
  have:=h.1.2
  simp at this
theorem bnd {α β : Type} {x : Option α} {a : α} {f : α→Option β} {r : Option β} (h : x = some a) (k : f a = r) : x.bind f = r:=by rw [h];exact k
theorem cnd {α : Type} {a b r : Option α} (h : a = r) : cond true a b = r:=h
theorem qe5 {a b c d : Int} (h : ¬ ((a = c∧b≠d)∨(a≠c∧b = d))∨c > 1000000) : ¬ SegV (sg a b c d):=by
  intro hs;rcases h with h | h
  · exact h hs.or
  · have f : c≤1000000:=hs.b.2.1;omega
end Go.Sh
namespace Go.Sh
open Go Go.Am
theorem q141 : qco = some true:=by
  have P : ∀ x y,Qx x y = some (pq x y):=fun _ _=>rfl;have S : ∀ a b c d,Z9 a b c d = some (sg a b c d):=fun _ _ _ _=>rfl;have G : ((Qx 0 0).bind fun a=>(Qx 2 0).bind fun b=>(Qx 2 3).bind fun c=>(Qx 4 0).bind fun d=>some [a,b,c,d]) = some n4.Nodes:=rfl;have f : mks 16 401 (pq 0 0) = some (List.replicate 401 (pq 0 0)):=by unfold mks;rw [qu qq];rfl
  have r : mks 32 401 (sg 0 0 0 0) = some (List.replicate 401 (sg 0 0 0 0)):=by unfold mks;rw [qu qq];rfl
  have j : mks 32 31 ({At:=pq 0 0,Head:=0,Steps:=0} : Ka) = some (List.replicate 31 {At:=pq 0 0,Head:=0,Steps:=0}):=by unfold mks;rw [qu qq];rfl
  have p : q1d n4 (pq 2 2) = some (true,0):=(qfb net4 _).trans rfl;have u : q1d n4 (pq 3 1) = some (false,0):=(qfb net4 _).trans rfl;have g : q1d net0 (pq 0 0) = some (false,0):=(qfb qfw _).trans rfl;have k : Z4 q5g (List.replicate 31 {At:=pq 0 0,Head:=0,Steps:=0}) = some (net0,4):=qtb qjl (fun w m=>by rw [List.eq_of_mem_replicate m];decide) qd;have s : Z4 [] [{At:=pq 0 0,Head:=4,Steps:=0}] = some (net0,8):=qk7 qq fun h=>by have:=h.head.2;simp at this
  have o : Z4 [] [{At:=pq 0 0,Head:=0,Steps:=501}] = some (net0,8):=qk7 qq fun h=>by have:=h.steps.2;simp at this
  have B : PtB (pq 1000000 0):=q8q.1 qq
  have q : Z4 [] [{At:=pq 1000000 0,Head:=0,Steps:=1}] = some (net0,16):=by
    rw [qk8 ⟨B,qq,qq⟩ (c:=16) (l:=[]) (by decide +kernel),qw qq]
  have t : Z4 [] [{At:=pq 1000000 0,Head:=0,Steps:=0}] = some (net0,0):=by
    rw [qk8 ⟨B,qq,qq⟩ (c:=0) (l:=[]) (by decide +kernel),qu rfl];exact (q20 qfw).2.2.2.2
  unfold qco;refine bnd (P _ _) ?_;refine bnd (P _ _) ?_;refine bnd (P _ _) ?_;refine bnd (P _ _) ?_;refine bnd (P _ _) ?_;refine bnd (P _ _) ?_;refine bnd (P _ _) ?_;refine bnd (P _ _) ?_;refine bnd (P _ _) ?_;refine bnd (a:=true) ?_ ?_
  · refine bnd (S _ _ _ _) ?_;refine bnd (S _ _ _ _) ?_;refine bnd (S _ _ _ _) ?_;refine bnd (S _ _ _ _) ?_;refine bnd (q8d qv2) (cnd ?_);refine bnd (S _ _ _ _) ?_;refine bnd (S _ _ _ _) ?_;refine bnd (S _ _ _ _) ?_;refine bnd (q8d quz) ?_;exact bnd (a:=true) (cnd (bnd (q8d qfw) rfl)) rfl
  refine bnd G ?_;refine bnd G ?_;refine bnd G ?_;refine bnd G ?_;refine bnd (P _ _) ?_;refine bnd (a:=qlg.Nodes) rfl ?_;refine bnd (P _ _) ?_;refine bnd (a:=pq 2 3) rfl ?_;refine bnd (a:=true) ?_ ?_
  · refine bnd qqb ?_;refine bnd (a:=true) (cnd (bnd qq8 rfl)) ?_;refine bnd (a:=true) (cnd (bnd qqa rfl)) ?_;refine bnd (a:=true) (cnd (bnd qq9 rfl)) ?_;exact cnd (bnd qq7 (cnd (bnd f (bnd (qq5 (show 400 < (List.replicate 401 (pq 0 0)).length by rw [List.length_replicate];decide)) rfl))))
  refine bnd (S _ _ _ _) ?_;refine bnd (qfk (qe5 qq)) ?_;refine bnd (S _ _ _ _) ?_;refine bnd (qfk (qe5 qq)) ?_;refine bnd (S _ _ _ _) ?_;refine bnd (qfk (qe5 qq)) ?_;refine bnd r ?_;refine bnd (qui (show 400 < (List.replicate 401 (sg 0 0 0 0)).length by rw [List.length_replicate];decide)) ?_;refine bnd G ?_;refine bnd (qqw (n:=n4) net4 qq) ?_;refine bnd G ?_;refine bnd (P _ _) ?_;refine bnd p ?_;refine bnd G ?_;refine bnd (P _ _) ?_;refine bnd u ?_;refine bnd (P _ _) ?_;refine bnd g ?_;refine bnd (P _ _) ?_;refine bnd qzb ?_;refine bnd j ?_;refine bnd k ?_;refine bnd s ?_;refine bnd o ?_;refine bnd (P _ _) ?_;refine bnd q ?_;refine bnd (P _ _) ?_;refine bnd t ?_;refine bnd (a:=true) rfl ?_;refine bnd (a:=true) rfl ?_;refine bnd (a:=true) rfl ?_;refine bnd (a:=true) rfl ?_;refine bnd (a:=true) rfl ?_;refine bnd (a:=true) rfl ?_;refine bnd (a:=true) rfl ?_;refine bnd (a:=true) rfl ?_;refine bnd (a:=true) rfl ?_;refine bnd (a:=true) rfl ?_;refine bnd (a:=true) rfl ?_;refine bnd (a:=true) rfl ?_;refine bnd (a:=true) rfl ?_;refine bnd (a:=true) rfl ?_;refine bnd (a:=true) rfl ?_;refine bnd (a:=true) rfl ?_;refine bnd (a:=true) rfl ?_;refine bnd (a:=true) rfl ?_;refine bnd (a:=true) rfl ?_;refine bnd (a:=true) rfl ?_;exact bnd (a:=true) (cnd (bnd qoq rfl)) rfl
end Go.Sh
