/- Sw11 -/
import Derived.Test.YtbknppciefodiaaGreatK13
namespace Go.Sh
open Go Go.Am
noncomputable def q6n (t : Nat) (a : qw) (l : K3) : K3:={From:=Kn t a l.From,To:=Kn t a l.To,Depth:=l.Depth}
theorem qgl {α β γ : Type} {src : List α} {g : α→β} {P : α→Prop} [DecidablePred P] {e : α→γ} {f : Int × List β→Option ((Int × List β) ⊕ (List β ⊕ γ))}
    (hs : ∀ k (d : k < src.length) (o : List β),o.length = k→f ((k : Int),o) = some (if P src[k] then .inl (((k + 1 : Nat) : Int),o ++ [g src[k]]) else .inr (.inr (e src[k]))))
    (hd : ∀ o,f ((src.length : Int),o) = some (.inr (.inl o))) : (loop f (0,[]) = some (.inl (src.map g))∧∀ a∈src,P a)∨∃ a∈src,¬ P a∧loop f (0,[]) = some (.inr (e a)):=by
  have key : ∀ (r pre : List α),src = pre ++ r→(loop f ((pre.length : Int),pre.map g) = some (.inl (src.map g))∧∀ a∈r,P a)∨∃ a∈src,¬ P a∧loop f ((pre.length : Int),pre.map g) = some (.inr (e a)):=by
    intro r
    induction r with
    | nil=>
      intro pre h;rw [List.append_nil] at h;subst h;exact .inl ⟨Kg (hd _),fun a c=>by cases c⟩
    | cons a r ih=>
      intro pre h;have d : pre.length < src.length:=by rw [h];simp
      have c : src[pre.length] = a:=by simp [h]
      have b:=hs pre.length d (pre.map g) qg;rw [c] at b;by_cases hp : P a
      · rw [qr hp] at b;have j:=ih (pre ++ [a]) (by rw [h];simp);rw [Kw b];rw [show (((pre ++ [a]).length : Nat) : Int) = ((pre.length + 1 : Nat) : Int) by simp,List.map_append] at j;rcases j with ⟨l,m⟩ | g
        · exact .inl ⟨l,fun x n=>(List.mem_cons.1 n).elim (fun e=>e ▸ hp) (m x)⟩
        · exact .inr g
      · rw [qp hp] at b;exact .inr ⟨a,by rw [h];simp,hp,Kg b⟩
  exact key src [] rfl
theorem qrs : ∀ m∈tbl,∀ (a u w : qw),Ax u w→Ax (addV (mulV m u) a) (addV (mulV m w) a):=by
  intro m b;simp only [tbl,List.mem_cons,List.not_mem_nil,or_false] at b
  rcases b with rfl | rfl | rfl | rfl | rfl | rfl | rfl | rfl | rfl | rfl | rfl | rfl | rfl | rfl | rfl | rfl | rfl | rfl | rfl | rfl | rfl | rfl | rfl | rfl <;>
    (intro a u w h;unfold Ax mulV addV at *;simp only;omega)
theorem qi6 {a b c j g k l f d x y z t : Int} (h : rowOk a b c) :
    (min (j * a + g * b + k * c + t) (l * a + f * b + d * c + t)≤x * a + y * b + z * c + t∧x * a + y * b + z * c + t≤max (j * a + g * b + k * c + t) (l * a + f * b + d * c + t))↔
      ((a≠0→min j l≤x∧x≤max j l)∧(b≠0→min g f≤y∧y≤max g f)∧(c≠0→min k d≤z∧z≤max k d)):=by
  rcases h with ⟨rfl,rfl,rfl⟩ | ⟨rfl,rfl,rfl⟩ | ⟨rfl,rfl,rfl⟩ | ⟨rfl,rfl,rfl⟩ | ⟨rfl,rfl,rfl⟩ | ⟨rfl,rfl,rfl⟩ <;> omega
theorem qne {m : V3} (f : m∈tbl) (a u w p : qw) : onL (addV (mulV m u) a) (addV (mulV m w) a) (addV (mulV m p) a)↔onL u w p:=by
  have hp:=qey m f;obtain ⟨j,d,g⟩:=hp.1;unfold onL addV mulV;simp only;rw [qi6 j,qi6 d,qi6 g]
  refine qdr hp (min u.X w.X≤p.X∧p.X≤max u.X w.X) (min u.Y w.Y≤p.Y∧p.Y≤max u.Y w.Y) (min u.Z w.Z≤p.Z∧p.Z≤max u.Z w.Z) (fun p q r=>(p∧q∧r)↔_)
    (fun a b c=>(a≠0→min u.X w.X≤p.X∧p.X≤max u.X w.X)∧(b≠0→min u.Y w.Y≤p.Y∧p.Y≤max u.Y w.Y)∧(c≠0→min u.Z w.Z≤p.Z∧p.Z≤max u.Z w.Z)) (fun a b c=>⟨fun h=>?_,fun h=>?_,fun h=>?_⟩) ?_
  · simp [h.1,h.2.1,h.2.2]
  · simp [h.1,h.2.1,h.2.2]
  · simp [h.1,h.2.1,h.2.2]
  · exact ⟨Iff.rfl,⟨fun h=>⟨h.1,h.2.2,h.2.1⟩,fun h=>⟨h.1,h.2.2,h.2.1⟩⟩,⟨fun h=>⟨h.2.1,h.1,h.2.2⟩,fun h=>⟨h.2.1,h.1,h.2.2⟩⟩,⟨fun h=>⟨h.2.1,h.2.2,h.1⟩,fun h=>⟨h.2.2,h.1,h.2.1⟩⟩,⟨fun h=>⟨h.2.2,h.1,h.2.1⟩,fun h=>⟨h.2.1,h.2.2,h.1⟩⟩,⟨fun h=>⟨h.2.2,h.2.1,h.1⟩,fun h=>⟨h.2.2,h.2.1,h.1⟩⟩⟩
theorem qv2 : ∀ q∈tbl2,∀ (a p : qw),addV (mulV q.1 (mulV q.2 ⟨p.X - a.X,p.Y - a.Y,p.Z - a.Z⟩)) a = p:=by
  intro q b;simp only [tbl2,List.mem_cons,List.not_mem_nil,or_false] at b
  rcases b with rfl | rfl | rfl | rfl | rfl | rfl | rfl | rfl | rfl | rfl | rfl | rfl | rfl | rfl | rfl | rfl | rfl | rfl | rfl | rfl | rfl | rfl | rfl | rfl <;>
    (intro a p;unfold mulV addV;rw [qj4];simp only;omega)
theorem q160 (m : V3) (a p : qw) (x y z : Int) : (⟨(uMap m a x y z).X - (addV (mulV m p) a).X,(uMap m a x y z).Y - (addV (mulV m p) a).Y,(uMap m a x y z).Z - (addV (mulV m p) a).Z⟩ : qw) = uMap m ⟨0,0,0⟩ (x - p.X) (y - p.Y) (z - p.Z):=by
  unfold uMap mulV addV;rw [qj4];simp only [Int.sub_mul];omega
theorem q15v {t : Qr} {f : K0} (b : TOk t) (r : FOk f) (ag : 0≤f.Turn) (aa : 0≤t.End.Frame.Turn) (y : ∀ m∈t.Marks,0≤m.Frame.Turn) :
    ∃ u e,qca t f = some (u,e)∧(e = 16∨(e = 0∧TOk u∧u.Lines = t.Lines.map (q6n f.Turn.toNat f.At))):=by
  have ab:=b.1.1;have z:=b.1.2.1;have w : f.Turn = (f.Turn.toNat : Int):=by omega
  have d : f.Turn.toNat < 24:=by have:=r.1;omega
  unfold qca;rw [qqj t q6 q6,qr b];simp only [qk,show ((0 : Int) != 0) = false from rfl,Q0,q2u,qr r]
  rcases qgl (src:=t.Lines) (g:=q6n f.Turn.toNat f.At) (P:=fun l=>InV (Kn f.Turn.toNat f.At l.From) (-1000000)∧InV (Kn f.Turn.toNat f.At l.To) (-1000000)) (e:=fun _=>(({Lines:=[],Marks:=[],End:=({Frame:=({Turn:=0,At:=({X:=0,Y:=0,Z:=0} : qw)} : K0),Drawn:=0} : Z4)} : Qr),(16 : Int))) (f:=q94 t f) (fun k a o ho=>by
    obtain ⟨_,i1,i2⟩:=b.2.1 _ (Kp a);simp only [q94,dlt a,Q3,Qv a,qk,q5o w d r i1,q5o w d r i2,w64s a (show t.Lines.length≤1000000 by omega)];by_cases q : InV (Kn f.Turn.toNat f.At t.Lines[k].From) (-1000000)
    · by_cases v : InV (Kn f.Turn.toNat f.At t.Lines[k].To) (-1000000)
      · rw [qr q,qr v,qr ⟨q,v⟩];simp only [show ((0 : Int) != 0) = false from rfl,Q0,qk];rw [Y7 (by simp;omega)];rfl
      · have x : ¬ (InV (Kn f.Turn.toNat f.At t.Lines[k].From) (-1000000)∧InV (Kn f.Turn.toNat f.At t.Lines[k].To) (-1000000)):=fun h=>v h.2;rw [qp x,qr q,qp v];rfl
    · have x : ¬ (InV (Kn f.Turn.toNat f.At t.Lines[k].From) (-1000000)∧InV (Kn f.Turn.toNat f.At t.Lines[k].To) (-1000000)):=fun h=>q h.1
      rw [qp x,qp q];rfl) (fun o=>by simp only [q94,dnl,Q0]) with ⟨a1,a2⟩ | ⟨l,_,_,a1⟩
  rotate_left
  · rw [a1];exact ⟨_,_,rfl,.inl rfl⟩
  rw [a1];simp only [qk]
  have hw : ∀ g : K0,FOk g→0≤g.Turn→∃ h e,q11 g f = some (h,e)∧((e = 0∧FOk h)∨e = 16):=fun g hg ae=>by
    rw [qrb (t:=g.Turn.toNat) (u:=f.Turn.toNat) q6 w hg r];split
    · rename_i a;exact ⟨_,_,rfl,.inl ⟨rfl,a⟩⟩
    · exact ⟨_,_,rfl,.inr rfl⟩
  let wf : Yf→K0 × Int:=fun m=>(q11 m.Frame f).getD (qr6,16)
  have c : ∀ m∈t.Marks,q11 m.Frame f = some (wf m)∧(((wf m).2 = 0∧FOk (wf m).1)∨(wf m).2 = 16):=fun m p=>by
    obtain ⟨h,e,j,s⟩:=hw m.Frame (b.2.2 m p) (y m p);have : wf m = (h,e):=by show (q11 m.Frame f).getD _ = _;rw [j];rfl
    rw [this];exact ⟨j,s⟩
  rcases qgl (src:=t.Marks) (g:=fun m=>({Name:=m.Name,Frame:=(wf m).1} : Yf)) (P:=fun m=>(wf m).2 = 0) (e:=fun m=>(({Lines:=[],Marks:=[],End:=({Frame:=({Turn:=0,At:=({X:=0,Y:=0,Z:=0} : qw)} : K0),Drawn:=0} : Z4)} : Qr),(wf m).2)) (f:=q95 t f) (fun k a o ho=>by
    obtain ⟨j,s⟩:=c _ (Kp a);simp only [q95,dlt a,Q3,Qv a,qk,j,w64s a (show t.Marks.length≤1000000 by omega)];by_cases n : (wf t.Marks[k]).2 = 0
    · rw [qr n,n,show ((0 : Int) != 0) = false from rfl,Q0,Y7 (by simp;omega)];rfl
    · rw [qp n,show ((wf t.Marks[k]).2 != 0) = true by simpa using n,Q3]) (fun o=>by simp only [q95,dnl,Q0]) with ⟨b1,b2⟩ | ⟨m,p,n,b1⟩
  rotate_left
  · rw [b1];refine ⟨_,_,rfl,.inl ?_⟩;rcases (c m p).2 with g | g
    · exact absurd g.1 n
    · exact g
  rw [b1];obtain ⟨h,e,j,s⟩:=hw t.End.Frame b.1.2.2 aa;simp only [qk,j];rcases s with ⟨rfl,hh⟩ | rfl
  · refine ⟨_,_,rfl,.inr ⟨rfl,⟨⟨by simpa using ab,by simpa using z,hh⟩,fun l hl=>?_,fun m p=>?_⟩,rfl⟩⟩
    · obtain ⟨k,a,rfl⟩:=List.mem_map.1 hl;exact ⟨qrs _ (q2n _ d) _ _ _ (b.2.1 k a).1,(a2 k a).1,(a2 k a).2⟩
    · obtain ⟨k,a,rfl⟩:=List.mem_map.1 p;rcases (c k a).2 with g | g
      · exact g.2
      · have:=b2 k a;omega
  · exact ⟨_,_,rfl,.inl rfl⟩
theorem qnx {p : List qh} (hp : Qy p = 0) {f : K0} (b : FOk f) (a : 0≤f.Turn) : (place p f).2 = 16∨(place p f).2 = 4∨(place p f).2 = 0:=by
  rcases qhr hp b a with ⟨h,_⟩ | h | ⟨q,h,_⟩ <;> rw [h] <;> simp
theorem q171 (t : Qr) (bs : List (List qh)) (f : K0) (d : 0≤f.Turn) (ay : 0≤t.End.Frame.Turn) (aw : ∀ m∈t.Marks,0≤m.Frame.Turn) : qdf t bs f = some true:=by
  unfold qdf;rw [qre];simp only [qk];rcases qu9 t bs with h | ⟨h,a⟩
  · rw [h];rfl
  rw [h];simp only [qk,Bool.not_true,Q0,qhw];by_cases hf : FOk f
  rotate_left
  · rw [qp hf];rfl
  rw [qr hf,show ((0 : Int) != 0) = false from rfl];have h1:=a.small.lines;have h2:=a.small.marks;have h3:=a.small.many;have hT : f.Turn = (f.Turn.toNat : Int):=by omega
  have r : f.Turn.toNat < 24:=by have:=hf.1;omega
  obtain ⟨u,eu,e1,e2⟩:=q15v a.tok hf d ay aw;simp only [Q0,qk,qiz t bs q6 q6 q6,e1];have ai : FOk ({Turn:=f.Turn,At:=({X:=0,Y:=0,Z:=0} : qw)} : K0):=⟨hf.1,by unfold InV;simp⟩
  rcases qgl (src:=bs) (g:=fun b=>(place b ({Turn:=f.Turn,At:=({X:=0,Y:=0,Z:=0} : qw)} : K0)).1) (P:=fun b=>(place b ({Turn:=f.Turn,At:=({X:=0,Y:=0,Z:=0} : qw)} : K0)).2 = 0) (e:=fun _=>true) (f:=q68 bs f true) (fun k hk o ho=>by
    simp only [q68,dlt hk,Q3,Qv hk,qk,qpf _ _ (show 0≤(({Turn:=f.Turn,At:=({X:=0,Y:=0,Z:=0} : qw)} : K0)).Turn from d),w64s hk (show bs.length≤1000000 by omega)];have h3:=qnx (a.brush _ (Kp hk)) ai d;generalize place bs[k] ({Turn:=f.Turn,At:=({X:=0,Y:=0,Z:=0} : qw)} : K0) = q at *;rcases h3 with g | g | g
    · rw [qp (by rw [g];decide),g];rfl
    · rw [qp (by rw [g];decide),g];rfl
    · rw [qr g,g,show ((0 : Int) != 0) = false from rfl,Q0,Y7 (by simp;omega)];rfl) (fun o=>by simp only [q68,dnl,Q0]) with ⟨a1,a2⟩ | ⟨b,_,_,a1⟩
  rotate_left
  · rw [a1];rfl
  rw [a1];simp only [qk];by_cases n1 : (Zd t bs).2 = 0
  rotate_left
  · rw [show ((Zd t bs).2 != 0) = true by simpa using n1];rcases qqg a.ok with g | g | g
    · exact absurd g n1
    · rw [g];rcases e2 with rfl | ⟨rfl,_⟩ <;> rfl
    · rw [g];rcases e2 with rfl | ⟨rfl,_⟩ <;> rfl
  rw [n1];rcases e2 with rfl | ⟨rfl,hu,v⟩
  · rfl
  simp only [show ((0 : Int) != 0) = false from rfl,Q0,qk,qpf _ _ d];generalize ac : bs.map (fun b=>(place b ({Turn:=f.Turn,At:=({X:=0,Y:=0,Z:=0} : qw)} : K0)).1) = bt;have aj : bt.length = bs.length:=by rw [← ac];simp
  have j : ∀ b∈bs,∃ q,place b ({Turn:=f.Turn,At:=({X:=0,Y:=0,Z:=0} : qw)} : K0) = (q,0)∧Qy q = 0∧∀ x y z,hasB q x y z↔hasB (b.map (Yb f.Turn.toNat ⟨0,0,0⟩)) x y z:=fun b hb=>by
    have h0:=a2 b hb;rcases qhr (a.brush b hb) ai d with ⟨h,_⟩ | h | ⟨q,h,hq,_,hx,_⟩
    · rw [h] at h0;exact absurd h0 qz
    · rw [h] at h0;exact absurd h0 qz
    · exact ⟨q,h,hq,hx⟩
  have au : Ze u bt:=⟨hu,by have:=a.some'.2;omega,fun b hb=>by
    rw [← ac] at hb;obtain ⟨c,hc,rfl⟩:=List.mem_map.1 hb;obtain ⟨q,e,hq,_⟩:=j c hc;rw [e];exact hq,fun _ e=>by have:=a.some'.1;rw [e] at aj;simp at aj;omega,fun l s=>by
    rw [v] at s;obtain ⟨k,hk,rfl⟩:=List.mem_map.1 s
    exact a.depth k hk⟩
  have hull : u.Lines.length = t.Lines.length:=by rw [v];simp
  rw [qiz u bt q6 (by have:=hu.1.2.1;omega) q6,qk];obtain ⟨k1,k2,k3,k4⟩:=qqf n1;have s3:=qqg au;have p3:=qnx k3 hf d;by_cases n2 : (place (Zd t bs).1 f).2 = 0
  rotate_left
  · rcases p3 with g | g | g
    · rw [g];rcases s3 with n | n | n <;> rw [n] <;> rfl
    · rw [g];rcases s3 with n | n | n <;> rw [n] <;> rfl
    · exact absurd g n2
  rw [n2];by_cases n3 : (Zd u bt).2 = 0
  rotate_left
  · rcases s3 with n | n | n
    · exact absurd n n3
    · rw [n];rfl
    · rw [n];rfl
  rw [n3];simp only [show ((0 : Int) != 0) = false from rfl,Q0,Q3,qk];obtain ⟨_,_,m3,m4⟩:=qqf n3;rcases qhr k3 hf d with ⟨h,_⟩ | h | ⟨q,h,hq,_,hx,_⟩
  · rw [h] at n2;exact absurd n2 qz
  · rw [h] at n2;exact absurd n2 qz
  have az:=qmd _ r;have ap : ∀ b∈(Zd t bs).1,ltB b:=fun b hb=>(Y8.1 k3).2.1 b hb |>.1
  have e : q = (Zd u bt).1:=by
    refine qfq (Y8.1 hq).2.2 (Y8.1 m3).2.2 fun x y z=>?_;have ew:=qqs r f.At x y z;generalize uMap (axT (invI f.Turn.toNat)) (invF f.Turn.toNat f.At) x y z = w at ew;have c1:=qgq r f.At ap w.X w.Y w.Z
    have pt : ∀ (l : K3),l∈t.Lines→∀ p : qw,hasB (Zo bt (q6n f.Turn.toNat f.At l)) (x - (Kn f.Turn.toNat f.At p).X) (y - (Kn f.Turn.toNat f.At p).Y) (z - (Kn f.Turn.toNat f.At p).Z)↔hasB (Zo bs l) (w.X - p.X) (w.Y - p.Y) (w.Z - p.Z):=fun l s p=>by
      obtain ⟨i1,i2⟩:=qfn a.ok s;obtain ⟨qb,f1,f2,f3⟩:=j _ i2
      have eb : Zo bt (q6n f.Turn.toNat f.At l) = qb:=by
        have hk : (min l.Depth ((bs.length : Int) - 1)).toNat < bs.length:=by have:=a.depth l s;have:=a.some'.1;omega
        have hd:=a.depth l s;have e0:=Zy (xs:=bs) (i:=min l.Depth ((bs.length : Int) - 1)) (k:=(min l.Depth ((bs.length : Int) - 1)).toNat) q6 hk;have e1:=Zy (xs:=bt) (i:=min l.Depth ((bt.length : Int) - 1)) (k:=(min l.Depth ((bs.length : Int) - 1)).toNat) q6 q6;have eo : Zo bs l = bs[(min l.Depth ((bs.length : Int) - 1)).toNat]:=by unfold Zo;rw [e0];rfl
        unfold Zo q6n;simp only;rw [e1];rw [eo] at f1;subst ac;simp only [Option.getD_some,List.getElem_map,f1]
      have al : ∀ b∈Zo bs l,ltB b:=fun b hb=>((Y8.1 (a.brush _ i2)).2.1 b hb).1;have es:=q160 (axT f.Turn.toNat) f.At p w.X w.Y w.Z;rw [ew] at es;have c2:=qgq r ⟨0,0,0⟩ al (w.X - p.X) (w.Y - p.Y) (w.Z - p.Z);rw [← es] at c2;rw [eb,f3];exact c2
    rw [hx,← show (uMap (axT f.Turn.toNat) f.At w.X w.Y w.Z).X = x by rw [ew],← show (uMap (axT f.Turn.toNat) f.At w.X w.Y w.Z).Y = y by rw [ew],← show (uMap (axT f.Turn.toNat) f.At w.X w.Y w.Z).Z = z by rw [ew]];rw [c1,k4,ew,m4];constructor
    · rintro ⟨l,s,p,hp,h⟩;exact ⟨q6n f.Turn.toNat f.At l,by rw [v];exact List.mem_map_of_mem s,Kn f.Turn.toNat f.At p,(qne (q2n _ r) _ _ _ _).2 hp,(pt l s p).2 h⟩
    · rintro ⟨l',ah,p',hp,h⟩;rw [v] at ah;obtain ⟨l,s,rfl⟩:=List.mem_map.1 ah;have ak:=qv2 _ az f.At p';have hp2:=(qne (q2n _ r) f.At l.From l.To (mulV (axT (invI f.Turn.toNat)) ⟨p'.X - f.At.X,p'.Y - f.At.Y,p'.Z - f.At.Z⟩)).1 (ak.symm ▸ hp);refine ⟨l,s,_,hp2,(pt l s _).1 ?_⟩;have : Kn f.Turn.toNat f.At (mulV (axT (invI f.Turn.toNat)) ⟨p'.X - f.At.X,p'.Y - f.At.Y,p'.Z - f.At.Z⟩) = p':=ak;rw [this];exact h
  rw [h];rw [← e];simp only [sameBox _ _ (show q.length≤1000000 by have:=(Y8.1 hq).1;omega),decide_true,qk]
end Go.Sh
