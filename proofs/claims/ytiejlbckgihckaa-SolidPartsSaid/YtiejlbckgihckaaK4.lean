/- Am17 Am18 Am19 Am20 Am21 Am22 Am22b -/
import Derived.Test.YtiejlbckgihckaaK3
import Derived.RangeFuncRecord
import Derived.RangeFuncNested
import Derived.OrdersIn
import Derived.RangeFuncCalls
namespace Go.Am
open Go
variable {P : Program} {T : Tab}
section
variable {w : World} {Z : Nat→Prop} {inj : Inj} {st : AS} {a : Act} {Ds : List Nat}
theorem qoa {c : Bool} {v b : V} {r : List V} {u : V} (h : minI c v (b::r) = some u) : ∃ k n k' m,v = .d (.int k n)∧b = .d (.int k' m)∧minI c (.d (.int k (bif c then (if m > n then m else n) else (if m < n then m else n)))) r = some u:=by
  unfold minI at h;split at h
  · rename_i a;cases a
  · rename_i a;cases a;exact ⟨_,_,_,_,rfl,rfl,h⟩
  · simp at h
theorem qcn {f : Bool} {nx : Nat} : ∀ (r : List V) (v u : V) (x : Value) (xs : List Value),minI f v r = some u→RelV w Z inj nx v x→r.length = xs.length→(∀ (i : Nat) (d : V) (c : Value),r[i]? = some d→xs[i]? = some c→RelV w Z inj nx d c)→
    ∃ y,(xs.foldlM (if f then Builtin.max2 else Builtin.min2) x).run P w = .ok y w∧RelV w Z inj nx u y
  | [],v,u,x,xs,h,hv,hl,_=>by
    simp [minI] at h;subst h
    have : xs = []:=by cases xs <;> simp_all
    subst this
    exact ⟨x,qb,hv⟩
  | b::r,v,u,x,xs,h,hv,hl,hr=>by
    match xs,hl,hr with
    | c::xs,hl,hr=>
      have hb:=hr 0 b c rfl rfl
      obtain ⟨k,n,k',m,rfl,rfl,h⟩:=qoa h
      cases hv with | d hv=>
      cases hv
      cases hb with | d hb=>
      cases hb
      obtain ⟨y,a,g⟩:=qcn r _ u (.int k (bif f then (if m > n then m else n) else (if m < n then m else n))) xs h (.d (.int _ _)) (by simpa using hl) (fun i d c hd j=>hr (i + 1) d c (by simpa using hd) (by simpa using j))
      refine ⟨y,?_,g⟩
      cases f
      · simp only [Bool.false_eq_true,if_false,List.foldlM_cons,Builtin.min2,Sem.run_bind,Sem.run_pure,Result.andThen_ok,qv] at a ⊢;exact a
      · simp only [if_true,List.foldlM_cons,Builtin.max2,Sem.run_bind,Sem.run_pure,Result.andThen_ok,qw] at a ⊢;exact a
theorem qcd {nx : Nat} {x y : V} {xs : Array Value} (h : LRel w Z inj nx [x,y] xs) : ∃ a b,xs = #[a,b]∧RelV w Z inj nx x a∧RelV w Z inj nx y b:=by
  obtain ⟨d,c⟩:=h;obtain ⟨l⟩:=xs
  match l,d with
  | [a,b],_=>exact ⟨a,b,rfl,c 0 _ _ rfl rfl,c 1 _ _ rfl rfl⟩
theorem qcc {nx : Nat} {x : V} {xs : Array Value} (h : LRel w Z inj nx [x] xs) : ∃ a,xs = #[a]∧RelV w Z inj nx x a:=by
  obtain ⟨b,c⟩:=h;obtain ⟨l⟩:=xs
  match l,b with
  | [a],_=>exact ⟨a,rfl,c 0 _ _ rfl rfl⟩
theorem qkv {b : Builtin} {ts : Array TypeId} {ty : TypeId} {cs : Array Bool} {vs : List V} {xs : Array Value} {v : V} {st1 : AS} (hT : Yk P T) (h : RelS w Z inj st a Ds) (p : LRel w Z inj st.nx vs xs) (hb : Ks T st b ts vs = some (v,st1)) :
    Ke st st1 v w Z inj ((builtin b ts ty cs xs).run P w):=by
  unfold Ks at hb;split at hb
  ·
    rename_i x;obtain ⟨s,rfl,g⟩:=qcc p;split at hb <;> try simp at hb
    rename_i t f;split at hb <;> try simp at hb
    rename_i i o;obtain ⟨ba,d,z,k⟩:=Yb (hT _ _ o);have q:=k.kind;unfold Yt at q
    have fin : ∀ n : Int,(Builtin.len_ ts ty #[s]).run P w = .ok (.int .i64 n) w→Ke st st (.d (.int .i64 n)) w Z inj ((builtin .len ts ty cs #[s]).run P w):=fun n hr=>
      .quiet h (by simp [builtin,hr]) (.d (.int _ _))
    split at hb <;> try simp at hb
    · rename_i hk;simp only [hk] at q;obtain ⟨e,ie,de,rfl,_⟩:=q;obtain ⟨rfl,rfl⟩:=hb;refine fin _ ?_;simp only [Builtin.len_,f];simp [run_underlying k.und,goInt]
    · rename_i hk;simp only [hk] at q;obtain ⟨e,ie,de,ze,rfl,_⟩:=q
      have m : ∀ ad n cap,s = .slice ad n cap→(Builtin.len_ ts ty #[s]).run P w = .ok (.int .i64 n) w:=by
        rintro ad n cap rfl;simp only [Builtin.len_,f];simp [run_underlying k.und,goInt]
      split at hb <;> try simp at hb
      · obtain ⟨rfl,rfl⟩:=hb
        cases g with | d g=>
        cases g;exact fin 0 (m _ _ _ rfl)
      · obtain ⟨rfl,rfl⟩:=hb
        cases g with | d g=>
        cases g with
        | slnil=>exact fin _ (m _ _ _ rfl)
        | slemp=>exact fin _ (m _ _ _ rfl)
        | sl=>exact fin _ (m _ _ _ rfl)
      · obtain ⟨rfl,rfl⟩:=hb
        cases g with
        | hsnil=>exact fin _ (m _ _ _ rfl)
        | hs=>exact fin _ (m _ _ _ rfl)
    · rename_i hk;simp only [hk] at q;obtain ⟨rfl,_⟩:=q;split at hb <;> try simp at hb
      obtain ⟨rfl,rfl⟩:=hb
      cases g with | d g=>
      cases g;refine fin _ ?_;simp only [Builtin.len_,f];simp [run_underlying k.und,goInt]
  ·
    obtain ⟨sv,s,rfl,hs,g⟩:=qcd p;split at hb <;> try simp at hb
    rename_i t u f an;split at hb <;> try simp at hb
    rename_i i j o ae;obtain ⟨⟨h1,h2,h3⟩,hb⟩:=hb
    have key : (Builtin.append_ ts ty #[sv,s]).run P w = (Builtin.append_ #[t,u] ty #[sv,s]).run P w:=by
      unfold Builtin.append_;simp only [f,an];rfl
    obtain ⟨x,w',inj',hr,r1,r2,r3,r4,r5⟩:=qp4 (ty:=ty) h (hT _ _ o) (hT _ _ ae) h1 h2 h3 hs g hb;exact ⟨x,w',inj',.inl (by simp [builtin,key,hr]),r1,r2,r3,r4,r5⟩
  ·
    obtain ⟨sv,s,rfl,hs,g⟩:=qcd p;split at hb <;> try simp at hb
    rename_i t u f an;split at hb <;> try simp at hb
    rename_i i j o ae;obtain ⟨⟨h1,h2,h3,h4⟩,hb⟩:=hb
    have key : (Builtin.copy_ ts ty #[sv,s]).run P w = (Builtin.copy_ #[t,u] ty #[sv,s]).run P w:=by
      unfold Builtin.copy_;simp only [f];rfl
    obtain ⟨x,w',inj',hr,r1,r2,r3,r4,r5⟩:=qpc (ty:=ty) h (hT _ _ o) (hT _ _ ae) h1 h2 h3 h4 hs g hb;exact ⟨x,w',inj',.inl (by simp [builtin,key,hr]),r1,r2,r3,r4,r5⟩
  ·
    rename_i x;obtain ⟨s,rfl,g⟩:=qcc p;split at hb <;> try simp at hb
    rename_i t f;split at hb <;> try simp at hb
    rename_i i o;obtain ⟨⟨h1,h2⟩,hb⟩:=hb
    have key : (Builtin.clear_ ts ty #[s]).run P w = (Builtin.clear_ #[t] ty #[s]).run P w:=by
      unfold Builtin.clear_;simp only [f];rfl
    obtain ⟨x,w',inj',hr,r1,r2,r3,r4,r5⟩:=qpa (ty:=ty) h (hT _ _ o) h1 h2 g hb;exact ⟨x,w',inj',.inl (by simp [builtin,key,hr]),r1,r2,r3,r4,r5⟩
  ·
    rename_i m0 k0;obtain ⟨mv,kv,rfl,hs,g⟩:=qcd p;split at hb <;> try simp at hb
    rename_i t n kd f;split at hb <;> try simp at hb
    rename_i i es o ax;split at hb <;> try simp at hb
    rename_i ks aw;obtain ⟨aq,bd,hd,rfl,rfl⟩:=hb
    cases g with | d g=>
    exact qpd h (hT _ _ o) f aw hs g ax aq hd
  ·
    rename_i v0 r
    cases hm : minI false v0 r with
    | none=>simp [hm] at hb
    | some u=>
      simp [hm] at hb;obtain ⟨rfl,rfl⟩:=hb;obtain ⟨l⟩:=xs
      match l,p with
      | [],p=>simp [LRel] at p
      | x::xs,p=>
        obtain ⟨y,h1,h2⟩:=qcn (P:=P) r v0 u x xs hm (p.2 0 _ _ rfl rfl) (by simpa using p.1) (fun i d c hd hc=>p.2 (i + 1) d c (by simpa using hd) (by simpa using hc));refine .quiet h ?_ h2;simp only [Bool.false_eq_true,if_false] at h1;simp [builtin,Builtin.min_,h1]
  · rename_i v0 r
    cases hm : minI true v0 r with
    | none=>simp [hm] at hb
    | some u=>
      simp [hm] at hb;obtain ⟨rfl,rfl⟩:=hb;obtain ⟨l⟩:=xs
      match l,p with
      | [],p=>simp [LRel] at p
      | x::xs,p=>
        obtain ⟨y,h1,h2⟩:=qcn (P:=P) r v0 u x xs hm (p.2 0 _ _ rfl rfl) (by simpa using p.1) (fun i d c hd hc=>p.2 (i + 1) d c (by simpa using hd) (by simpa using hc));refine .quiet h ?_ h2;simp only [if_true] at h1;simp [builtin,Builtin.max_,h1]
  · simp at hb
theorem qhz {o : Oper} {v : V} {st1 : AS} (hT : Yk P T) (h : RelS w Z inj st a Ds) (g : opFn T st o.op = some (v,st1)) : Ke st st1 v w Z inj ((execOp a.eval o).run P w):=by
  obtain ⟨dst,op,type,pos,after,guard⟩:=o;simp only at g;cases op <;> simp only [opFn,reduceCtorEq] at g
  case move x=>
    cases hx : st.ev x with
    | none=>simp [hx] at g
    | some u=>simp [hx] at g;obtain ⟨rfl,rfl⟩:=g;exact qhx h hx rfl
  case assign x=>
    cases hx : st.ev x with
    | none=>simp [hx] at g
    | some u=>simp [hx] at g;obtain ⟨rfl,rfl⟩:=g;exact qhx h hx rfl
  case pick c x y=>
    split at g <;> try simp at g
    · rename_i hc;obtain ⟨u,hx,rfl,rfl⟩:=g;have ae:=K5 h hc;generalize ap : a.eval c = cv at ae
      cases ae with | d ae=>
      cases ae;exact .quiet h (by simp [execOp,ap,asBool]) (K5 h hx)
    · rename_i hc;obtain ⟨u,hx,rfl,rfl⟩:=g;have ae:=K5 h hc;generalize ap : a.eval c = cv at ae
      cases ae with | d ae=>
      cases ae;exact .quiet h (by simp [execOp,ap,asBool]) (K5 h hx)
  case alloc t=>
    cases ht : T t with
    | none=>simp [ht] at g
    | some i=>simp [ht] at g;obtain ⟨rfl,rfl⟩:=g;exact qp3 h (hT _ _ ht)
  case box t x=>
    split at g <;> try simp at g
    rename_i i u ht hx;obtain ⟨⟨h1,h2⟩,rfl,rfl⟩:=g;exact qp7 h (hT _ _ ht) hx h1 (by simpa using h2)
  case build t ps=>
    split at g <;> try simp at g
    rename_i i vs ht hv;obtain ⟨h1,g⟩:=g;split at g <;> try simp at g
    rename_i l hl;obtain ⟨cs,hc,rfl,rfl⟩:=g;exact qp8 h (hT _ _ ht) hv h1 hl hc
  case buildSlice t len ps=>
    split at g <;> try simp at g
    rename_i i vs ht hv;split at g <;> try simp at g
    rename_i l hl;obtain ⟨⟨h1,h2⟩,xs,hc,rfl,rfl⟩:=g;exact qp9 h (hT _ _ ht) hv hl h1 h2 hc
  case load t p=>
    split at g <;> try simp at g
    rename_i i u ht hp;obtain ⟨x,hx,rfl,rfl⟩:=g;exact qpj h (hT _ _ ht) hp hx
  case store t p x=>
    split at g <;> try simp at g
    rename_i i u y ht hp hx;obtain ⟨hs,rfl⟩:=g;exact qpq h (hT _ _ ht) hp hx hs
  case binOp op t x y u=>
    split at g
    · rename_i p q hx hy;split at g <;> try simp at g
      rename_i i ht;split at g <;> try simp at g
      rename_i ks ai;split at g <;> simp at g
      · rename_i r hc;obtain ⟨rfl,rfl⟩:=g;exact qhv h (hT _ _ ht) hx hy ai hc (.inl ⟨rfl,rfl⟩)
      · rename_i r hc;obtain ⟨rfl,rfl⟩:=g;exact qhv h (hT _ _ ht) hx hy ai hc (.inr ⟨rfl,rfl⟩)
    · rename_i hx hy;simp at g;obtain ⟨r,hr,rfl,rfl⟩:=g;exact qp6 h hx hy hr
    · rename_i hx hy;split at g <;> try simp at g
      rename_i i ht;obtain ⟨r,hr,rfl,rfl⟩:=g;exact qp5 h (hT _ _ ht) hx hy hr
    · simp at g
  case unOp op t x=>
    split at g <;> try simp at g
    rename_i p hx;obtain ⟨r,hr,rfl,rfl⟩:=g;exact qpr h hx hr
  case convert src dst x=>
    split at g <;> try simp at g
    rename_i i j k n hi hj hx;split at g <;> simp at g
    rename_i k0 k1 az ay;obtain ⟨rfl,rfl⟩:=g;exact qpb h (hT _ _ hi) (hT _ _ hj) az ay hx
  case makeFunc fn first caps=>
    cases fn <;> simp only [reduceCtorEq] at g
    rename_i f;split at g <;> simp at g
    rename_i hf;obtain ⟨vs,hv,rfl,rfl⟩:=g;exact qpl h hf hv
  case makeSlice t l c=>
    split at g <;> try simp at g
    rename_i i k1 n k2 m ht hl hc;obtain ⟨⟨h1,h2,h3,h4⟩,rfl,rfl⟩:=g;exact qpn h (hT _ _ ht) h1 hl hc h2 h3 h4
  case slice t x lo hi mx=>
    split at g <;> try simp at g
    rename_i i u ht hx;obtain ⟨⟨h1,h2⟩,g⟩:=g;split at g <;> try simp at g
    rename_i n hn;split at g <;> try simp at g
    rename_i p q hp hq;obtain ⟨r,hr,rfl,rfl⟩:=g;subst h2;exact qpp h (hT _ _ ht) h1 hx hn hp hq hr
  case fieldAddr s p f=>
    split at g <;> try simp at g
    rename_i i u ht hp;split at g <;> try simp at g
    rename_i off size ag hk hf;obtain ⟨r,hr,rfl,rfl⟩:=g;exact qpf h (hT _ _ ht) hp hk hf hr
  case field s x f=>
    split at g <;> try simp at g
    rename_i i u ht hx;split at g <;> try simp at g
    rename_i off size ag cs hk hf ha;split at g <;> try simp at g
    rename_i r hr;obtain ⟨y,hy,rfl,rfl⟩:=g;exact qpe h (hT _ _ ht) hx hk hf ha hr hy
  case indexAddr t x ix=>
    split at g <;> try simp at g
    rename_i i u k n ht hx hn;obtain ⟨y,hy,rfl,rfl⟩:=g;exact qph h (hT _ _ ht) hx hn hy
  case index t x ix=>
    split at g <;> try simp at g
    rename_i i u k n ht hx hn;split at g <;> try simp only [reduceCtorEq] at g
    · rename_i cs hk ha;split at g <;> try simp at g
      rename_i h0;split at g <;> try simp at g
      rename_i r hr;obtain ⟨y,hy,rfl,rfl⟩:=g;exact qpg h (hT _ _ ht) hx hn hk ha h0 hr hy
    · rename_i hk;split at g <;> try simp only [reduceCtorEq] at g
      rename_i s;rw [Kt] at g;obtain ⟨b,hb,e⟩:=g;cases e;exact qpi h (hT _ _ ht) hx hn hk hb
  case extract x k=>
    split at g <;> try simp at g
    · rename_i vs hx;obtain ⟨y,hy,rfl,rfl⟩:=g;exact qhw h (.inl ⟨vs,y,hx,hy,rfl⟩)
    · rename_i vs hx;obtain ⟨y,hy,rfl,rfl⟩:=g;exact qhw h (.inr ⟨vs,hx,hy⟩)
  case nilCheck x=>
    have key : ∀ u,st.ev x = some u→(match a.eval x with | .pointer none | .nilIface | .nilFunc | .func (.method _) _ _=>False | _=>True)→Ke st st u w Z inj ((execOp a.eval {dst:=dst,op:=.nilCheck x,type:=type,pos:=pos,after:=after,guard:=guard}).run P w):=by
      intro u hx bc;have hr:=K5 h hx;refine .quiet (x:=a.eval x) h ?_ hr;simp only [execOp];split <;> simp_all
    split at g <;> simp at g
    all_goals
      rename_i hx
      obtain ⟨rfl,rfl⟩:=g
      refine key _ hx ?_
      have hr:=K5 h hx
      generalize a.eval x = xv at hr ⊢
      first
        | (cases hr with | d hr=>cases hr <;> trivial)
        | (cases hr <;> trivial)
  case makeMap t r=>
    split at g <;> try simp at g
    obtain ⟨hk,rfl,rfl⟩:=g;exact qpm h
  case lookup t x k ok=>
    split at g <;> try simp at g
    rename_i i n kd ht hx hk;split at g <;> try simp only [reduceCtorEq] at g
    rename_i ks es z ai hb hz;split at g <;> try simp only [reduceCtorEq] at g
    rename_i ak
    cases hg : mget i.eagg ks z kd es with
    | none=>rw [hg] at g;simp at g
    | some e=>
      rw [hg] at g;simp only [Option.map_some,Option.some.injEq,Prod.mk.injEq] at g;obtain ⟨rfl,rfl⟩:=g;exact qpk h (hT _ _ ht) ai hx hk hb hz ak hg
  case mapUpdate t m k v=>
    split at g <;> try simp at g
    rename_i i n kd vd ht hm hk hv;split at g <;> try simp at g
    rename_i ks es ai hb;obtain ⟨⟨ak,hc⟩,bi,hg,rfl,rfl⟩:=g;exact qpo h (hT _ _ ht) ai hm hk hv hb ak hc hg
  case call c=>
    obtain ⟨aw,args,argTypes⟩:=c;cases aw <;> simp only [reduceCtorEq] at g
    rename_i b;split at g <;> try simp at g
    rename_i vs hv;have hl:=q6r h hv;have e2 : (args.toList.map a.eval).toArray = args.map a.eval:=by apply Array.ext';simp
    rw [e2] at hl;have:=qkv (ty:=type) (cs:=args.map fun | .const _=>true | _=>false) hT h hl g;simp only [execOp,resolve,Sem.run_bind,Sem.run_pure,Result.andThen_ok,invoke];exact this
end
end Go.Am
namespace Go.Am
open Go
variable {P : Program} {T : Tab}
theorem RelD.le {w : World} {Z : Nat→Prop} {x y : DV} {v : Value} (h : RelD w Z x v) (m : DLe x y) : RelD w Z y v:=by
  induction m generalizing v with
  | refl=>exact h
  | nil es=>cases h;exact .slnil es
  | tup hlen _ ih=>
    cases h with | @tup _ cs h1 h2=>
    refine .tup q6 fun i d c hd l=>?_;obtain ⟨x,f⟩:=Y8 hlen.symm hd;exact ih i x d f hd (h2 i x c f l)
  | agg hlen _ ih=>
    cases h with | @agg _ cs h1 h2=>
    refine .agg q6 fun i d c hd l=>?_;obtain ⟨x,f⟩:=Y8 hlen.symm hd;exact ih i x d f hd (h2 i x c f l)
  | @sl es xs ys hlen hrow hcell ih=>
    have k : xs = []→ys = []:=fun e=>List.length_eq_zero_iff.1 (by rw [← hlen,e];rfl)
    have row : ∀ (i : Nat) (y : List DV),ys[i]? = some y→∃ x,xs[i]? = some x∧x.length = y.length:=fun i y g=>by
      obtain ⟨x,f⟩:=Y8 hlen.symm g;exact ⟨x,f,hrow i x y f g⟩
    have cell : ∀ (i : Nat) (y : List DV) (j : Nat) (d : DV),ys[i]? = some y→y[j]? = some d→∃ x c,xs[i]? = some x∧x[j]? = some c∧DLe c d:=fun i y j d g hd=>by
      obtain ⟨x,f,m⟩:=row i y g;obtain ⟨c,l⟩:=Y8 m.symm hd;exact ⟨x,c,f,l,hcell i x y j c d f g l hd⟩
    cases h with
    | slnil=>rw [k rfl];exact .slnil es
    | slemp _ a=>rw [k rfl];exact .slemp es a
    | @sl _ _ b o cap h1 h2 h3 h4 h5=>
      rw [hlen];refine .sl q6 (fun s=>h2 fun e=>s (k e)) (fun i y g=>?_) (fun i y j d g hd=>?_) fun i y j d c g hd l=>?_
      · obtain ⟨x,f,m⟩:=row i y g;rw [← m];exact h3 i x f
      · obtain ⟨x,c,f,l,p⟩:=cell i y j d g hd;obtain ⟨q,t⟩:=h4 i x j c f l;refine ⟨?_,t⟩
        cases p with
        | refl=>exact q
        | nil=>rfl
        | tup=>exact absurd q (by simp [Y6])
        | agg=>exact absurd q (by simp [Y6])
        | sl=>rfl
      · obtain ⟨x,r,f,n,p⟩:=cell i y j d g hd;exact ih i x y j r d f g n hd (h5 i x j r c f n l)
section
variable {w : World} {Z : Nat→Prop} {inj : Inj} {st st' : AS} {a : Act} {Ds : List Nat} {base : Nat} {ρ : Nat→Nat} {fz ph : List Nat}
def wkZ (Z : Nat→Prop) (inj : Inj) (st : AS) (fz : List Nat) (b : Nat) : Prop:=Z b∨∃ n∈fz,∃ es xs o,find st.hp n = some (.dat es xs)∧inj n = some (b,o)
def wkI (inj : Inj) (ρ : Nat→Nat) (ph : List Nat) : Inj:=fun n=>if n∈ph then none else inj (ρ n)
theorem qat (h : RelH w Z inj st.hp st.nx) {nx' : Nat} {v v' : V} (hv : Wv st ρ fz ph nx' v v') : ∀ {x : Value},RelV w Z inj st.nx v x→RelV w (wkZ Z inj st fz) (wkI inj ρ ph) nx' v' x:=by
  have u : ∀ b,Z b→wkZ Z inj st fz b:=fun b hb=>.inl hb
  induction hv with
  | dead=>exact fun _=>.dead _
  | d hle=>intro x a;cases a with | d a=>exact .d ((a.le hle).mono (fun _ _=>rfl) u)
  | nil hm hlt=>intro x a;cases a with | d a=>cases a;exact .hsnil hlt
  | dref cs j=>intro x a;cases a with | dref h1 h2 h3=>exact .dref (u _ h1) h2 fun k d c hd g=>(h3 k d c hd g).mono (fun _ _=>rfl) u
  | ref hr hp hlt=>intro x a;cases a with | ref h1 h2=>exact .ref hlt (by simp only [wkI,hp,hr,if_false];exact h2)
  | hs hr hp hlt=>
    intro x a
    cases a with
    | hsnil h1=>exact .hsnil hlt
    | hs h1 h2 h3 h4=>exact .hs hlt h2 h3 fun g=>by obtain ⟨b,o,s,e2,e3⟩:=h4 g;exact ⟨b,o,by simp only [wkI,hp,hr,if_false];exact s,e2,e3⟩
  | yld hr hp hlt=>intro x a;cases a with | yld h1 h2=>exact .yld hlt (by simp only [wkI,hp,hr,if_false];exact h2)
  | mp hr hp hlt=>intro x a;cases a with | mp h1 h2=>exact .mp hlt (by simp only [wkI,hp,hr,if_false];exact h2)
  | fn hl _ ih=>
    intro x a
    cases a with | @fn _ _ cs h1 h2=>
    refine .fn q6 fun i d c hd g=>?_;obtain ⟨y,m⟩:=Y8 hl.symm hd;exact ih i y d m hd (h2 i y c m g)
  | agg hl _ ih=>
    intro x a
    cases a with | @agg _ cs h1 h2=>
    refine .agg q6 fun i d c hd g=>?_;obtain ⟨y,m⟩:=Y8 hl.symm hd;exact ih i y d m hd (h2 i y c m g)
  | tup hl _ ih=>
    intro x a
    cases a with | @tup _ cs h1 h2=>
    refine .tup q6 fun i d c hd g=>?_;obtain ⟨y,m⟩:=Y8 hl.symm hd;exact ih i y d m hd (h2 i y c m g)
  | dtup hl _ ih=>
    intro x a
    cases a with | d a=>cases a with | @tup _ cs h1 h2=>
    refine .tup q6 fun i d c hd g=>?_;obtain ⟨y,m⟩:=Y8 hl.symm hd;exact ih i y d m hd (.d (h2 i y c m g))
  | dagg hl _ ih=>
    intro x a
    cases a with | d a=>cases a with | @agg _ cs h1 h2=>
    refine .agg q6 fun i d c hd g=>?_;obtain ⟨y,m⟩:=Y8 hl.symm hd;exact ih i y d m hd (.d (h2 i y c m g))
  | @frz n es o l xs ys k hb hf hle hys hk=>
    intro x a;subst hk hys;have q : ((xs.drop o).take l).length = l:=by simp;omega
    have hB:=(h.blk n _ hb).2;obtain ⟨b1,b2,b3⟩:=hB
    cases a with
    | hsnil h1=>
      have : (xs.drop o).take 0 = []:=by simp
      rw [this];exact .d (.slnil _)
    | @hs _ _ _ _ cap ad h1 h2 h3 h4=>
      obtain ⟨bb,oo,sp⟩:=ad;simp only at h3;subst h3;by_cases h0 : l = 0
      · subst h0;have : (xs.drop o).take 0 = []:=by simp
        rw [this];exact .d (RelD.sl (es:=k) (xs:=[]) qb qb qb qb qb)
      · obtain ⟨b,t,s,e2,e3⟩:=h4 q6;rw [e2];rcases b3 with ⟨_,p⟩ | ⟨b',ae,arr,ty,p,b5,z⟩
        · rw [s] at p;cases p
        · rw [s] at p;cases p
          have r : ∀ (i : Nat) (x : List DV),((xs.drop o).take l)[i]? = some x→xs[o + i]? = some x:=by
            intro i x a;rw [List.getElem?_take] at a;split at a
            · rwa [List.getElem?_drop] at a
            · simp at a
          have e9 : ∀ i j,t + o * k + (i * k + j) = t + ((o + i) * k + j):=by intro i j;rw [Nat.add_mul];omega
          have f : ∀ (i : Nat) (x : List DV) (j : Nat) (d : DV),((xs.drop o).take l)[i]? = some x→x[j]? = some d→Y6 d = true∧∃ c,w.cell? ⟨b,t + o * k + (i * k + j),none⟩ = some c∧RelD w Z d c:=by
            intro i x j d a hd;obtain ⟨c1,c,c2,c3⟩:=z _ x j d (r i x a) hd;exact ⟨c1,c,by rw [e9];simp only [World.cell?,b5];exact c2,c3⟩
          have:=RelD.sl (w:=w) (Z:=wkZ Z inj st fz) (es:=k) (xs:=(xs.drop o).take l) (b:=b) (o:=t + o * k) (cap:=cap) (by rw [q];exact h2) (fun _=>.inr ⟨n,hf,_,_,t,hb,s⟩) (fun i x a=>b2 _ _ (r i x a))
            (fun i x j d a hd=>by obtain ⟨c1,c,c2,_⟩:=f i x j d a hd;exact ⟨c1,c,c2⟩)
            (fun i x j d c a hd g=>by obtain ⟨_,c',c2,c3⟩:=f i x j d a hd;rw [c2] at g;cases g;exact c3.mono (fun _ _=>rfl) u)
          rw [q] at this;exact .d this
  | @frzB n es cs k hb hf hk=>
    intro x a;subst hk;obtain ⟨b1,b2,b3⟩:=(h.blk n _ hb).2
    cases a with | @ref _ _ _ _ b o h1 h2=>
    rcases b3 with ⟨p,_⟩ | ⟨b',ae,arr,ty,p,b5,z⟩
    · simp at p
    · rw [h2] at p;cases p
      have f : ∀ (j : Nat) (d : DV),cs[j]? = some d→∃ c,w.cell? ⟨b,o + (0 * k + 0) + j,none⟩ = some c∧RelD w Z d c:=by
        intro j d hd;obtain ⟨c1,c,c2,c3⟩:=z 0 cs j d rfl hd;exact ⟨c,by simp only [World.cell?,b5];rw [← c2];simp,c3⟩
      exact .d (.box (.inr ⟨n,hf,_,_,o,hb,h2⟩) (fun j d hd=>by obtain ⟨c,c2,_⟩:=f j d hd;exact ⟨c,c2⟩)
        (fun j d c hd g=>by obtain ⟨c',c2,c3⟩:=f j d hd;rw [c2] at g;cases g;exact c3.mono (fun _ _=>rfl) u))
theorem qxg (h : RelH w Z inj st.hp st.nx) {nx' n : Nat} {b b' : Blk} (hp : n ∉ ph) (z : Wb st ρ fz ph nx' b b') (hb : RelB w Z inj st.nx (ρ n) b) : RelB w (wkZ Z inj st fz) (wkI inj ρ ph) nx' n b':=by
  have hz : ∀ b,Z b→wkZ Z inj st fz b:=fun b hb=>.inl hb;have hi : wkI inj ρ ph n = inj (ρ n):=by simp [wkI,hp]
  cases z with
  | dead=>trivial
  | dat es xs=>
    obtain ⟨m,p,a⟩:=hb;refine ⟨m,p,?_⟩;rcases a with ⟨a,g⟩ | ⟨b,o,arr,ty,a,g,r⟩
    · exact .inl ⟨a,hi.trans g⟩
    · exact .inr ⟨b,o,arr,ty,hi.trans a,g,fun i x j d f hd=>by obtain ⟨c1,c,c2,c3⟩:=r i x j d f hd;exact ⟨c1,c,c2,c3.mono (fun _ _=>rfl) hz⟩⟩
  | mp es=>
    obtain ⟨b,q,cl,m,p,a,g⟩:=hb;exact ⟨b,q,cl,hi.trans m,p,a,fun i e x he f=>by obtain ⟨g1,g2,g3⟩:=g i e x he f;exact ⟨g1.mono (fun _ _=>rfl) hz,g2.mono (fun _ _=>rfl) hz,g3⟩⟩
  | cel hl hc=>
    obtain ⟨m,p,a⟩:=hb;refine ⟨m,?_,?_⟩
    · intro i y k;obtain ⟨x,f⟩:=Y8 hl.symm k;rw [← (hc i x y f k).1];exact p i x f
    · rcases a with ⟨a,g⟩ | ⟨b,o,arr,ty,a,g,r⟩
      · exact .inl ⟨List.eq_nil_of_length_eq_zero (by rw [← hl,a];rfl),hi.trans g⟩
      · refine .inr ⟨b,o,arr,ty,hi.trans a,g,fun i y j d k hd=>?_⟩;obtain ⟨x,f⟩:=Y8 hl.symm k;obtain ⟨l1,l2⟩:=hc i x y f k;obtain ⟨c0,l⟩:=Y8 l1.symm hd;obtain ⟨u,s⟩:=l2 j c0 d l hd;obtain ⟨c1,c,c2,c3⟩:=r i x j c0 f l;exact ⟨s,c,c2,qat h u c3⟩
  | datcel hl hc=>
    obtain ⟨m,p,a⟩:=hb;refine ⟨m,?_,?_⟩
    · intro i y k;obtain ⟨x,f⟩:=Y8 hl.symm k;rw [← (hc i x y f k).1];exact p i x f
    · rcases a with ⟨a,g⟩ | ⟨b,o,arr,ty,a,g,r⟩
      · exact .inl ⟨List.eq_nil_of_length_eq_zero (by rw [← hl,a];rfl),hi.trans g⟩
      · refine .inr ⟨b,o,arr,ty,hi.trans a,g,fun i y j d k hd=>?_⟩;obtain ⟨x,f⟩:=Y8 hl.symm k;obtain ⟨l1,l2⟩:=hc i x y f k;obtain ⟨c0,l⟩:=Y8 l1.symm hd;obtain ⟨u,s⟩:=l2 j c0 d l hd;obtain ⟨c1,c,c2,c3⟩:=r i x j c0 f l;exact ⟨s,c,c2,qat h u (.d c3)⟩
  | loop hs=>
    obtain ⟨b,tmps,D,fn,m,p,a,g⟩:=hb;refine ⟨b,tmps,D,fn,hi.trans m,p,a,fun t v' ht=>?_⟩;obtain ⟨v,hv,z⟩:=hs t v' ht;obtain ⟨x,f,hr⟩:=g t v hv;exact ⟨x,f,qat h z hr⟩
theorem qk5 {nx' : Nat} {b a : Blk} (d : Wb st ρ fz ph nx' b a) (c : live a = true) : live b = true:=by
  cases d <;> first | rfl | simp [live] at c
theorem q1b (h : RelS w Z inj st a Ds) (s : Wk base ρ fz ph st st') : RelS w (wkZ Z inj st fz) (wkI inj ρ ph) st' a Ds∧Ext w Z inj st.hp w (wkZ Z inj st fz) (wkI inj ρ ph) st'.hp base:=by
  have back : ∀ n y,st'.blk n = some y→live y = true→∀ p,wkI inj ρ ph n = some p→n ∉ ph∧∃ b,st.blk (ρ n) = some b∧live b = true∧inj (ρ n) = some p:=by
    intro n y hb hl p hp;have g : n ∉ ph:=by intro hc;simp [wkI,hc] at hp
    obtain ⟨_,l⟩:=s.blocks n y hb;rcases l with ⟨l,_⟩ | ⟨_,b,h3,h4⟩
    · exact absurd l g
    · exact ⟨g,b,h3,qk5 h4 hl,by simpa [wkI,g] using hp⟩
  refine ⟨⟨?_,⟨?_,?_,?_,?_,?_⟩,h.defs,h.nodup,h.marks⟩,?_⟩
  · intro t v' ht;obtain ⟨v,hv,ag⟩:=s.slots t v' ht;obtain ⟨x,hx,hr⟩:=h.slots t v hv;exact ⟨x,hx,qat h.heap ag hr⟩
  · intro n y hb;obtain ⟨h1,l⟩:=s.blocks n y hb;refine ⟨h1,?_⟩;rcases l with ⟨l,es,aj,rfl⟩ | ⟨l,b,h3,h4⟩
    · exact ⟨aj,qb,.inl ⟨rfl,by simp [wkI,l]⟩⟩
    · exact qxg h.heap l h4 (h.heap.blk _ _ h3).2
  · intro n m b c p q u z am al hp hq an;obtain ⟨n1,b0,n2,n3,n4⟩:=back n b u am p hp;obtain ⟨m1,c0,m2,m3,m4⟩:=back m c z al q hq;exact h.heap.sep _ _ b0 c0 p q n2 m2 n3 m3 n4 m4 (fun e=>an (s.inj n m b c u z n1 m1 e))
  · intro n b p u hl hp d;obtain ⟨n1,b0,n2,n3,n4⟩:=back n b u hl p hp;rcases d with d | ⟨m,z,es,xs,o,k,j⟩
    · exact h.heap.out _ b0 p n2 n3 n4 d
    · exact h.heap.sep _ _ b0 _ p (p.1,o) n2 k n3 rfl n4 j (fun e=>s.free n b u n1 (by rw [e];exact z)) rfl
  · intro b d;rcases d with d | ⟨m,z,es,xs,o,k,j⟩
    · exact h.heap.zs b d
    · exact h.heap.im_lt ⟨m,_,o,k,rfl,j⟩
  · intro b d;rcases d with d | ⟨m,z,es,xs,o,k,j⟩
    · exact h.heap.zc b d
    · obtain ⟨_,_,b3⟩:=(h.heap.blk m _ k).2;rcases b3 with ⟨_,b4⟩ | ⟨y,be,arr,ty,b4,b5,_⟩
      · rw [j] at b4;cases b4
      · rw [j] at b4;cases b4;exact ⟨_,_,_,b5⟩
  · refine ⟨Nat.le_refl _,fun _ _ _=>rfl,?_,fun _ c e f h=>⟨c,e,f,h,rfl⟩,fun _ r h=>⟨r,h,rfl⟩,fun _ h=>.inl h,?_,?_,rfl,rfl,rfl,fun _=>rfl⟩
    · rintro b ⟨n,blk,o,k,k2,j⟩;obtain ⟨n1,b0,n2,n3,n4⟩:=back n blk k k2 _ j;exact .inl ⟨_,b0,o,n2,n3,n4⟩
    · intro b d;rcases d with d | ⟨m,z,es,xs,o,k,j⟩
      · exact .inl d
      · exact .inr (.inl ⟨m,_,o,k,rfl,j⟩)
    · intro n u;have g : n ∉ ph:=fun hc=>by have:=s.phantom n hc;omega
      simp [wkI,g,s.small n u]
end
end Go.Am
namespace Go.Am
open Go
variable {P : Program} {T : Tab}
section
variable {w : World} {Z : Nat→Prop} {inj : Inj} {st : AS} {a : Act} {Ds : List Nat}
theorem qrn {r : ResultVar} {v : V} (l : Yk P T) (h : RelH w Z inj st.hp st.nx) (hs : Yc w Z inj st.nx st.sl a.tmps) (f : qdc T st r = some v) :
    ∃ x,(match r with | .tmp t=>pure (a.tmps.getD t undef) | .cell p t=>(do loadVar t (← asAddr (a.tmps.getD p undef)) : Sem Value) : Sem Value).run P w = .ok x w∧RelV w Z inj st.nx v x:=by
  cases r with
  | tmp t=>
    obtain ⟨x,g,c⟩:=hs t v f;exact ⟨x,by simp [Array.getD_eq_getD_getElem?,g],c⟩
  | cell p t=>
    simp only [qdc] at f;split at f <;> try simp at f
    rename_i pv i hp k;obtain ⟨x,g,c⟩:=hs p pv hp;obtain ⟨b,o,y,e,d,j⟩:=qh2 (P:=P) h (l _ _ k) c f;refine ⟨y,?_,j⟩;rw [e] at g d;simp [Instr.loadAt,Instr.sureAddr] at d;simp [Array.getD_eq_getD_getElem?,g,asAddr,d]
theorem qiv (s : Yk P T) (h : RelH w Z inj st.hp st.nx) (hs : Yc w Z inj st.nx st.sl a.tmps) (g : ResultVar→Sem Value) (b : ∀ t,g (.tmp t) = pure (a.tmps.getD t undef))
    (j : ∀ p t,g (.cell p t) = (do loadVar t (← asAddr (a.tmps.getD p undef)))) : ∀ {l : List ResultVar} {k : List V},resL T st l = some k→
    ∃ xs : List Value,(l.mapM g).run P w = .ok xs w∧LRel w Z inj st.nx k xs.toArray
  | [],k,hr=>by simp [resL] at hr;subst hr;exact ⟨[],qb,qb,qb⟩
  | r::l,k,hr=>by
    simp only [resL] at hr
    split at hr <;> try simp at hr
    rename_i v z u y
    subst hr
    obtain ⟨x,n,f⟩:=qrn s h hs u
    obtain ⟨xs,o,q⟩:=qiv s h hs g b j y
    have n : (g r).run P w = .ok x w:=by
      rw [← n];cases r
      · rw [b]
      · rw [j]
    refine ⟨x::xs,?_,?_,?_⟩
    · rw [List.mapM_cons]
      simp only [Sem.run_bind,n,Result.andThen_ok,o,Sem.run_pure]
    · have:=q.1;simp at this ⊢;omega
    · intro i d c hd m
      cases i with
      | zero=>simp at hd m;subst hd m;exact f
      | succ i=>simp at hd m;exact q.2 i d c hd (by simpa using m)
theorem qob {nx : Nat} {cs : List V} {xs : Array Value} (h : LRel w Z inj nx cs xs) : RelV w Z inj nx (qcp cs) (.tuple xs):=by
  unfold qcp;split
  · rename_i ds hd;have:=q44 hd;subst this;refine .d (.tup (by simpa using h.1) fun i d c a b=>?_);have:=h.2 i (.d d) c (by simp [a]) b
    cases this with | d h=>exact h
  · exact .tup h.1 h.2
theorem qro {fn : Func} {v : V} (r : Yk P T) (h : RelH w Z inj st.hp st.nx) (hs : Yc w Z inj st.nx st.sl a.tmps) (c : resV T st fn.results.toList = some v) : ∃ x,(results fn a.tmps).run P w = .ok x w∧RelV w Z inj st.nx v x:=by
  unfold resV at c
  have key : ∀ f,resL T st fn.results.toList = some f→∃ xs : List Value,(results fn a.tmps).run P w = .ok (if h : xs.toArray.size = 1 then xs.toArray[0] else .tuple xs.toArray) w∧LRel w Z inj st.nx f xs.toArray:=by
    intro f b;unfold results;generalize n : (fun x=>match x with | .tmp t=>pure (a.tmps.getD t undef) | .cell p t=>(do loadVar t (← asAddr (a.tmps.getD p undef)) : Sem Value) : ResultVar→Sem Value) = g;rw [Sem.run_bind,Array.mapM_eq_mapM_toList,Sem.run_map];obtain ⟨xs,l,d⟩:=qiv r h hs g (fun t=>by rw [← n]) (fun p t=>by rw [← n]) b;refine ⟨xs,?_,d⟩;rw [l];rfl
  split at c
  · rename_i s b;simp at c;subst c;obtain ⟨xs,k,d⟩:=key _ b;obtain ⟨y,o,j⟩:=qcc d;have : xs = [y]:=by simpa using congrArg Array.toList o
    subst this;exact ⟨y,by simpa using k,j⟩
  · rename_i f m b;simp at c;subst c;obtain ⟨xs,k,d⟩:=key _ b;refine ⟨.tuple xs.toArray,?_,qob d⟩
    have : xs.toArray.size≠1:=by
      rw [← d.1];intro q
      match f,q with
      | [x],_=>exact m x rfl
    rw [dif_neg this] at k;exact k
  · simp at c
end
end Go.Am
namespace Go.Am
open Go
variable {P : Program} {T : Tab}
section
variable {w : World} {Z : Nat→Prop} {inj : Inj} {hp : List (Nat × Blk)} {nx : Nat}
theorem q4i {α β : Type} {f : α→Option β} : ∀ {l : List α} {r : List β},Z8 f l = some r→r.length = l.length∧∀ (i : Nat) (x : α),l[i]? = some x→∃ y,r[i]? = some y∧f x = some y
  | [],r,h=>by simp [Z8] at h;subst h;simp
  | x::l,r,h=>by
    simp only [Z8] at h
    split at h <;> try simp at h
    rename_i y c
    split at h <;> simp at h
    rename_i m b
    subst h
    obtain ⟨d,j⟩:=q4i b
    refine ⟨by simp [d],fun i z a=>?_⟩
    cases i with
    | zero=>simp at a;subst a;exact ⟨y,rfl,c⟩
    | succ i=>simp at a;obtain ⟨u,k,g⟩:=j i z a;exact ⟨u,by simpa using k,g⟩
def zAll (w : World) (Z : Nat→Prop) (inj : Inj) (hp : List (Nat × Blk)) (b : Nat) : Prop:=Z b∨(im hp inj b∧∃ c e f,w.heap[b]? = some (.cells c e f))
theorem qx7 {k : Nat} {v : V} {d : DV} (h : toD hp k v = some d) (a : Kf v = true) : Y6 d = true:=by
  cases k with
  | zero=>cases v <;> simp [toD] at h;subst h;exact a
  | succ k=>
    cases v with
    | d x=>simp [toD] at h;subst h;exact a
    | agg cs=>simp [Kf] at a
    | tup cs=>simp [Kf] at a
    | dead=>simp [Kf] at a
    | fn f cs=>simp only [toD,Kt] at h;obtain ⟨_,_,rfl⟩:=h;rfl
    | yld n=>simp [toD] at h
    | mp n=>simp [toD] at h
    | dref cs j=>simp [toD] at h
    | hs n es o l=>
      simp only [toD] at h;split at h
      · split at h <;> simp at h;subst h;rfl
      · split at h <;> simp at h;obtain ⟨_,_,rfl⟩:=h;rfl
      · simp at h
    | ref n es i j=>
      simp only [toD] at h;split at h
      · split at h <;> simp at h;subst h;rfl
      · split at h <;> simp at h;obtain ⟨_,_,rfl⟩:=h;rfl
      · simp at h
theorem q92 (h : RelH w Z inj hp nx) : ∀ (k : Nat) {v : V} {x : Value} {d : DV},toD hp k v = some d→RelV w Z inj nx v x→RelD w (zAll w Z inj hp) d x
  | 0,v,x,d,hd,hv=>by
    cases v <;> simp [toD] at hd
    subst hd
    cases hv with | d hv=>exact hv.mono (fun _ _=>rfl) (fun _ hz=>.inl hz)
  | k + 1,v,x,d,hd,hv=>by
    have hz : ∀ b,Z b→zAll w Z inj hp b:=fun _ hz=>.inl hz
    have ih:=fun {v : V} {x : Value} {d : DV}=>q92 h k (v:=v) (x:=x) (d:=d)
    have list : ∀ {cs : List V} {ds : List DV} {xs : Array Value},Z8 (toD hp k) cs = some ds→cs.length = xs.size→(∀ (i : Nat) (d : V) (c : Value),cs[i]? = some d→xs[i]? = some c→RelV w Z inj nx d c)→
        ds.length = xs.size∧∀ (i : Nat) (d : DV) (c : Value),ds[i]? = some d→xs[i]? = some c→RelD w (zAll w Z inj hp) d c:=by
      intro cs ds xs hm hl hr;obtain ⟨h1,h2⟩:=q4i hm;refine ⟨q6,fun i d c hd hc=>?_⟩;obtain ⟨y,hy⟩:=Y8 h1 hd;obtain ⟨d',q,hf⟩:=h2 i y hy;rw [hd] at q;cases q;exact ih hf (hr i y c hy hc)
    cases v with
    | d y=>simp [toD] at hd;subst hd;cases hv with | d hv=>exact hv.mono (fun _ _=>rfl) hz
    | agg cs=>
      simp only [toD,Kt] at hd;obtain ⟨ds,hm,rfl⟩:=hd
      cases hv with | agg h1 h2=>obtain ⟨a,b⟩:=list hm h1 h2;exact .agg a b
    | tup cs=>
      simp only [toD,Kt] at hd;obtain ⟨ds,hm,rfl⟩:=hd
      cases hv with | tup h1 h2=>obtain ⟨a,b⟩:=list hm h1 h2;exact .tup a b
    | fn f cs=>
      simp only [toD,Kt] at hd;obtain ⟨ds,hm,rfl⟩:=hd
      cases hv with | fn h1 h2=>obtain ⟨a,b⟩:=list hm h1 h2;exact .fn a b
    | dead=>simp [toD] at hd
    | yld n=>simp [toD] at hd
    | mp n=>simp [toD] at hd
    | dref cs j=>simp [toD] at hd
    | hs n es o l=>
      have key : ∀ (rows : List (List DV)) (blk : Blk),rows.length = l→find hp n = some blk→live blk = true→(∀ (i : Nat) (x : List DV),rows[i]? = some x→x.length = es)→
          (∀ b r,inj n = some (b,r)→∃ arr ty,w.heap[b]? = some (.cells arr ty (0,0))∧∀ (i : Nat) (x : List DV) (j : Nat) (d : DV),rows[i]? = some x→x[j]? = some d→Y6 d = true∧∃ c,arr[r + ((o + i) * es + j)]? = some c∧RelD w (zAll w Z inj hp) d c)→
          RelD w (zAll w Z inj hp) (.sl es rows) x:=by
        intro rows blk af hb s z t
        cases hv with
        | hsnil h1=>
          have : rows = []:=List.length_eq_zero_iff.1 af;subst this;exact .slnil es
        | @hs _ _ _ _ cap ad h1 h2 h3 h4=>
          obtain ⟨bb,oo,sp⟩:=ad;simp only at h3;subst h3;by_cases h0 : l = 0
          · have : rows = []:=List.length_eq_zero_iff.1 q6;subst this;subst h0;exact RelD.sl (es:=es) (xs:=[]) qb qb qb qb qb
          · obtain ⟨b,r,e1,e2,e3⟩:=h4 q6;rw [e2];obtain ⟨arr,ty,b5,b6⟩:=t b r e1;have e9 : ∀ i j,r + o * es + (i * es + j) = r + ((o + i) * es + j):=by intro i j;rw [Nat.add_mul];omega
            have hc : ∀ (i : Nat) (x : List DV) (j : Nat) (d : DV),rows[i]? = some x→x[j]? = some d→Y6 d = true∧∃ c,w.cell? ⟨b,r + o * es + (i * es + j),none⟩ = some c∧RelD w (zAll w Z inj hp) d c:=by
              intro i x j d g hd;obtain ⟨c1,c,c2,c3⟩:=b6 _ x j d g hd;exact ⟨c1,c,by rw [e9];simp only [World.cell?,b5];exact c2,c3⟩
            have:=RelD.sl (w:=w) (Z:=zAll w Z inj hp) (es:=es) (xs:=rows) (b:=b) (o:=r + o * es) (cap:=cap) (by rw [af];exact h2) (fun _=>.inr ⟨⟨n,blk,r,hb,s,e1⟩,_,_,_,b5⟩) z
              (fun i x j d g hd=>by obtain ⟨c1,c,c2,_⟩:=hc i x j d g hd;exact ⟨c1,c,c2⟩)
              (fun i x j d c g hd ai=>by obtain ⟨_,c',c2,c3⟩:=hc i x j d g hd;rw [c2] at ai;cases ai;exact c3)
            rw [af] at this;exact this
      simp only [toD] at hd;split at hd
      · rename_i m xs hb;split at hd <;> simp at hd
        rename_i ae;obtain ⟨ae,rfl⟩:=ae;subst hd;obtain ⟨b1,b2,b3⟩:=(h.blk n _ hb).2
        have aa : ∀ (i : Nat) (x : List DV),((xs.drop o).take l)[i]? = some x→xs[o + i]? = some x:=by
          intro i x g;rw [List.getElem?_take] at g;split at g
          · rwa [List.getElem?_drop] at g
          · simp at g
        refine key _ _ (by simp;omega) hb rfl (fun i x g=>b2 _ _ (aa i x g)) ?_;intro b r hi;rcases b3 with ⟨_,p⟩ | ⟨b',aq,arr,ty,p,b5,b6⟩
        · rw [hi] at p;cases p
        · rw [hi] at p;cases p;refine ⟨arr,ty,b5,fun i x j d g hd=>?_⟩;obtain ⟨c1,c,c2,c3⟩:=b6 _ x j d (aa i x g) hd;exact ⟨c1,c,c2,c3.mono (fun _ _=>rfl) hz⟩
      · rename_i m xs hb;split at hd <;> simp at hd
        rename_i ae;obtain ⟨ae,rfl⟩:=ae;obtain ⟨rows,hm,rfl⟩:=hd;obtain ⟨m1,m2⟩:=q4i hm;obtain ⟨b1,b2,b3⟩:=(h.blk n _ hb).2
        have aa : ∀ (i : Nat) (x : List V),((xs.drop o).take l)[i]? = some x→xs[o + i]? = some x:=by
          intro i x g;rw [List.getElem?_take] at g;split at g
          · rwa [List.getElem?_drop] at g
          · simp at g
        have z : ∀ (i : Nat) (x : List DV),rows[i]? = some x→∃ y,xs[o + i]? = some y∧Z8 (toD hp k) y = some x:=by
          intro i x g;obtain ⟨y,hy⟩:=Y8 m1 g;obtain ⟨x',ar,hf⟩:=m2 i y hy;rw [g] at ar;cases ar;exact ⟨y,aa _ _ hy,hf⟩
        refine key rows _ (by simp at m1;omega) hb rfl (fun i x g=>by obtain ⟨y,hy,hf⟩:=z i x g;rw [(q4i hf).1];exact b2 _ _ hy) ?_;intro b r hi;rcases b3 with ⟨_,p⟩ | ⟨b',aq,arr,ty,p,b5,b6⟩
        · rw [hi] at p;cases p
        · rw [hi] at p;cases p;refine ⟨arr,ty,b5,fun i x j d g hd=>?_⟩;obtain ⟨y,hy,hf⟩:=z i x g;obtain ⟨f1,f2⟩:=q4i hf;obtain ⟨u,hu⟩:=Y8 f1 hd;obtain ⟨d',q,al⟩:=f2 j u hu;rw [hd] at q;cases q;obtain ⟨c1,c,c2,c3⟩:=b6 _ y j u hy hu;exact ⟨qx7 al c1,c,c2,ih al c3⟩
      · simp at hd
    | ref n es i j=>
      have key : ∀ (row : List DV) (blk : Blk),i = 0→j = 0→find hp n = some blk→live blk = true→
          (∀ b r,inj n = some (b,r)→∃ arr ty,w.heap[b]? = some (.cells arr ty (0,0))∧∀ (j : Nat) (d : DV),row[j]? = some d→∃ c,arr[r + j]? = some c∧RelD w (zAll w Z inj hp) d c)→
          RelD w (zAll w Z inj hp) (.box row) x:=by
        intro row blk hi hj hb s t
        subst hi hj
        cases hv with | @ref _ _ _ _ b o h1 h2=>
        obtain ⟨arr,ty,b5,b6⟩:=t b o h2
        have hc : ∀ (j : Nat) (d : DV),row[j]? = some d→∃ c,w.cell? ⟨b,o + (0 * es + 0) + j,none⟩ = some c∧RelD w (zAll w Z inj hp) d c:=by
          intro j d hd;obtain ⟨c,c2,c3⟩:=b6 j d hd;exact ⟨c,by simp only [World.cell?,b5];rw [← c2];simp,c3⟩
        exact .box (.inr ⟨⟨n,blk,o,hb,s,h2⟩,_,_,_,b5⟩) (fun j d hd=>by obtain ⟨c,c2,_⟩:=hc j d hd;exact ⟨c,c2⟩)
          (fun j d c hd ai=>by obtain ⟨c',c2,c3⟩:=hc j d hd;rw [c2] at ai;cases ai;exact c3)
      simp only [toD] at hd;split at hd
      · rename_i m xs hb;split at hd <;> simp at hd
        subst hd;obtain ⟨b1,b2,b3⟩:=(h.blk n _ hb).2;refine key _ _ rfl rfl hb rfl ?_;intro b r hi;rcases b3 with ⟨p,_⟩ | ⟨b',aq,arr,ty,p,b5,b6⟩
        · simp at p
        · rw [hi] at p;cases p;refine ⟨arr,ty,b5,fun j d hd=>?_⟩;obtain ⟨_,c,c2,c3⟩:=b6 0 _ j d rfl hd;exact ⟨c,by rw [← c2];simp,c3.mono (fun _ _=>rfl) hz⟩
      · rename_i m xs hb;split at hd <;> simp at hd
        obtain ⟨row,hm,rfl⟩:=hd;obtain ⟨b1,b2,b3⟩:=(h.blk n _ hb).2;refine key _ _ rfl rfl hb rfl ?_;intro b r hi;rcases b3 with ⟨p,_⟩ | ⟨b',aq,arr,ty,p,b5,b6⟩
        · simp at p
        · rw [hi] at p;cases p;refine ⟨arr,ty,b5,fun j d hd=>?_⟩;obtain ⟨f1,f2⟩:=q4i hm;obtain ⟨u,hu⟩:=Y8 f1 hd;obtain ⟨d',q,al⟩:=f2 j u hu;rw [hd] at q;cases q;obtain ⟨_,c,c2,c3⟩:=b6 0 _ j u rfl hu;exact ⟨c,by rw [← c2];simp,ih al c3⟩
      · simp at hd
theorem qec (h : RelH w Z inj hp nx) : ∀ {f : List V} {ds : List DV},Kh hp f = some ds→ds.length = f.length∧∀ (i : Nat) (v : V),f[i]? = some v→∃ d,ds[i]? = some d∧toD hp 8 v = some d
  | [],ds,hd=>by simp [Kh] at hd;subst hd;simp
  | v::r,ds,hd=>by
    simp only [Kh] at hd
    split at hd <;> simp at hd
    rename_i x l g k
    subst hd
    obtain ⟨a,b⟩:=qec h k
    refine ⟨by simp [a],fun i u c=>?_⟩
    cases i with
    | zero=>simp at c;subst c;exact ⟨x,rfl,g⟩
    | succ i=>simp at c;obtain ⟨d,m,j⟩:=b i u c;exact ⟨d,by simpa using m,j⟩
theorem qo1 (h : RelH w Z inj hp nx) {k : List V} {ds : List DV} {xs : Array Value} (hd : Kh hp k = some ds) (g : LRel w Z inj nx k xs) (inj' : Inj) : LRel w (zAll w Z inj hp) inj' 0 (ds.map .d) xs:=by
  obtain ⟨a,b⟩:=qec h hd;refine ⟨by simpa [a] using g.1,fun i d c f n=>?_⟩;simp only [List.getElem?_map,Kt] at f;obtain ⟨o,f,rfl⟩:=f;obtain ⟨v,l⟩:=Y8 a f;obtain ⟨p,j,m⟩:=b i v l;rw [f] at j;cases j;exact .d (q92 h 8 m (g.2 i v c l n))
theorem qo0 {a : List V} {ds : List DV} {xs : Array Value} (hd : Kh hp a = some ds) (f : a.all V.isD = true) (k : LRel w Z inj nx a xs) (inj' : Inj) : LRel w Z inj' 0 (ds.map .d) xs:=by
  have e : ∀ {a : List V} {ds : List DV},Kh hp a = some ds→a.all V.isD = true→ds.map .d = a:=by
    intro a
    induction a with
    | nil=>intro ds hd _;simp [Kh] at hd;subst hd;rfl
    | cons v r ih=>
      intro ds hd f;simp only [Kh] at hd;split at hd <;> simp at hd
      rename_i x l b j;subst hd;simp only [List.all_cons,Bool.and_eq_true] at f;obtain ⟨g,h⟩:=f;cases v <;> simp [V.isD] at g
      simp [toD] at b;subst b;rw [List.map_cons,ih j h]
  refine ⟨by rw [e hd f];exact k.1,fun i d c b j=>?_⟩;rw [e hd f] at b;have m : V.isD d = true:=(List.all_eq_true.1 f) d (List.mem_of_getElem? b);have:=k.2 i d c b j;cases this <;> simp [V.isD] at m
  exact .d ‹_›
theorem qrt {Z Z' : Nat→Prop} {d : DV} {x : Value} (h : RelD w Z d x) (hs : d.scalar = true) : RelD w Z' d x:=by
  have go : ∀ {ds : List DV},DV.scalar.go ds = true→∀ (i : Nat) (d : DV),ds[i]? = some d→(∀ {x : Value},RelD w Z d x→RelD w Z' d x):=by
    intro ds
    induction ds with
    | nil=>intro _ i d h;simp at h
    | cons y r ih=>
      intro a i d hd
      cases i with
      | zero=>
        simp at hd;subst hd;intro x f;cases y <;> simp [DV.scalar.go] at a <;> cases f <;> constructor
      | succ i=>
        simp at hd;refine ih ?_ i d hd;cases y <;> simp [DV.scalar.go] at a <;> exact a
  cases d <;> simp [DV.scalar] at hs
  case tup ds=>cases h with | tup h1 h2=>exact .tup h1 fun i d c hd b=>go hs i d hd (h2 i d c hd b)
  case agg ds=>cases h with | agg h1 h2=>exact .agg h1 fun i d c hd b=>go hs i d hd (h2 i d c hd b)
  all_goals (cases h <;> constructor)
end
end Go.Am
namespace Go.Am
open Go
variable {P : Program} {T : Tab}
def Fw (ro : Option Nat) : Fence:={fn:=fun _=>True,depth:=none,alive:=false,round:=ro}
def toE : Ex→Exit
  | .nor=>.normal
  | .exit id=>.exit id
  | .ret=>.ret
def Y7 (ro : Option Nat) (w : World) : Prop:=∀ l,ro = some l→∃ r,w.heap[l]? = some (.loop r)
def Kk (base : Nat) (w : World) (Z : Nat→Prop) (inj : Inj) (st : AS) (a : Act) (Ds : List Nat) (st' : AS) (a' : Act) (w' : World) : Prop:=
  ∃ Z' inj' Ds',RelS w' Z' inj' st' a' Ds'∧Ext w Z inj st.hp w' Z' inj' st'.hp base∧a'.tmps.size = a.tmps.size∧base≤st'.nx∧∀ D∈Ds',D∈Ds∨w.heap.size≤D
section
variable {base : Nat} {w : World} {Z : Nat→Prop} {inj : Inj} {st st' st'' : AS} {a a' a'' : Act} {Ds : List Nat} {w' w'' : World}
theorem Kk.refl (h : RelS w Z inj st a Ds) (hb : base≤st.nx) : Kk base w Z inj st a Ds st a w:=⟨Z,inj,Ds,h,.refl,rfl,hb,fun _ h=>.inl h⟩
theorem Y7.ext {ro : Option Nat} {Z' : Nat→Prop} {inj' : Inj} {hp hp' : List (Nat × Blk)} {pin : Nat} (h : Y7 ro w) (e : Ext w Z inj hp w' Z' inj' hp' pin) : Y7 ro w':=
  fun l a=>let ⟨r,hr⟩:=h l a;let ⟨r',h',_⟩:=e.loops l r hr;⟨r',h'⟩
theorem Kk.bind {Q : Prop} (p : Kk base w Z inj st a Ds st' a' w') (h : ∀ Z' inj' b,RelS w' Z' inj' st' a' b→a'.tmps.size = a.tmps.size→base≤st'.nx→(∀ ro,Y7 ro w→Y7 ro w')→
    (∀ st'' a'' w'',Kk base w' Z' inj' st' a' b st'' a'' w''→Kk base w Z inj st a Ds st'' a'' w'')→Q) : Q:=by
  obtain ⟨Z',inj',b,g,c,d,k,m⟩:=p;refine h Z' inj' b g d k (fun ro s=>s.ext c) ?_;rintro st'' a'' w'' ⟨o,q,r,l,j,f,n,u⟩;refine ⟨o,q,r,l,c.trans j (Nat.le_refl _),f.trans d,n,fun D t=>?_⟩;rcases u D t with h | h
  · exact m D h
  · exact .inr (Nat.le_trans c.size h)
theorem qfi {n : Nat} {t : Tmp} (h : Zl n (some t) = true) : t < n:=by simpa [Zl,Nat.blt_eq] using h
theorem qi9 (a : Act) (d : Option Tmp) (v : Value) : (a.put d v).tmps.size = a.tmps.size:=by cases d <;> simp [Act.put]
theorem Yc.put {nx : Nat} {s : List (Nat × V)} {tmps : Array Value} {v : V} {x : Value} {t : Tmp} (h : Yc w Z inj nx s tmps) (d : RelV w Z inj nx v x) (c : t < tmps.size) : Yc w Z inj nx ((t,v)::s) (tmps.setIfInBounds t x):=by
  intro u y a;rw [Kj] at a;split at a
  · rename_i e;subst e;cases a;exact ⟨x,by simp [c],d⟩
  · rename_i e;obtain ⟨z,f,b⟩:=h u y a;exact ⟨z,by rw [Array.getElem?_setIfInBounds_ne e];exact f,b⟩
theorem qrh {Z' : Nat→Prop} {inj' : Inj} {hp' : List (Nat × Blk)} {nx' : Nat} {v : V} {x : Value} {dst : Option Tmp} (h : RelS w Z inj st a Ds) (e : Ext w Z inj st.hp w' Z' inj' hp' st.nx) (c : RelH w' Z' inj' hp' nx') (d : st.nx≤nx')
    (f : RelV w' Z' inj' nx' v x) (hd : Zl a.tmps.size dst = true) : RelS w' Z' inj' ({sl:=st.sl,hp:=hp',nx:=nx' : AS}.putD dst v) (a.put dst x) Ds:=by
  have hs : Yc w' Z' inj' nx' st.sl a.tmps:=h.slots.mono (e.zkeep h.heap) e.zin e.big e.pinj d
  cases dst with
  | none=>exact ⟨hs,c,h.defs,h.nodup,fun D b=>e.marks h.heap (h.marks D b)⟩
  | some t=>exact ⟨hs.put f (qfi hd),c,h.defs,h.nodup,fun D b=>e.marks h.heap (h.marks D b)⟩
theorem Y9 (st : AS) (d : Option Tmp) (v : V) : (st.putD d v).hp = st.hp:=by cases d <;> rfl
theorem Ya (st : AS) (d : Option Tmp) (v : V) : (st.putD d v).nx = st.nx:=by cases d <;> rfl
theorem q2x {Z' : Nat→Prop} {inj' : Inj} {hp' : List (Nat × Blk)} {nx' : Nat} {v : V} {x : Value} {dst : Option Tmp} (h : RelS w Z inj st a Ds) (hb : base≤st.nx) (e : Ext w Z inj st.hp w' Z' inj' hp' st.nx) (d : RelH w' Z' inj' hp' nx') (b : st.nx≤nx')
    (c : RelV w' Z' inj' nx' v x) (hd : Zl a.tmps.size dst = true) : Kk base w Z inj st a Ds ({sl:=st.sl,hp:=hp',nx:=nx' : AS}.putD dst v) (a.put dst x) w':=
  ⟨Z',inj',Ds,qrh h e d b c hd,by rw [Y9];exact e.pin_le hb,qi9 _ _ _,by rw [Ya];exact Nat.le_trans hb b,fun _ h=>.inl h⟩
def Jn (P : Program) (F : Fence) (ops : Array Oper) (Q : Exit→Act→World→Prop) (o : Oper) (K : Act→World→Prop) (a : Act) (w : World) : Prop:=
  if Region.wanted o (yielded ops a.tmps) then o.wpIn F 0 P a w K Q else (∀ f,o.about P w a.eval = some f→F.fn f)∧K (a.put o.dst undef) w
theorem qdr {F : Fence} {ops : Array Oper} {Q : Exit→Act→World→Prop} {o : Oper} {K : Act→World→Prop} {i : Nat} (hi : ops[i]? = some o) (h : Jn P F ops Q o K a w) : wpOpIn F 0 P ops Q i K a w:=by
  unfold wpOpIn;rw [hi];exact h
def Zz (P : Program) (base : Nat) (ops : Array Oper) (o : Oper) (st st' : AS) : Prop:=
  ∀ (ro : Option Nat) (Q : Exit→Act→World→Prop) (w : World) (Z : Nat→Prop) (inj : Inj) (a : Act) (Ds : List Nat) (K : Act→World→Prop),RelS w Z inj st a Ds→Zl a.tmps.size o.dst = true→base≤st.nx→Y7 ro w→
    (∀ a' w',Kk base w Z inj st a Ds st' a' w'→K a' w')→Jn P (Fw ro) ops Q o K a w
theorem q2q {ops : Array Oper} {o : Oper} {b : Bool} (h : RelS w Z inj st a Ds) (c : Ql ops st o = some b) : Region.wanted o (yielded ops a.tmps) = b:=by
  unfold Ql at c;unfold Region.wanted
  cases g : o.guard with
  | none=>rw [g] at c;simp at c;simp [c]
  | some jw=>
    obtain ⟨j,m⟩:=jw;rw [g] at c;simp only at c ⊢
    cases hd : (ops[j]?).bind (·.dst) with
    | none=>rw [hd] at c;simp at c
    | some t=>
      rw [hd] at c;simp only at c;unfold yielded;rw [hd];split at c
      · rename_i n l;obtain ⟨x,k,f⟩:=h.slots t _ l
        cases f with | d f=>
        cases f;simp at c;simp [k,c]
      · rename_i l;obtain ⟨x,k,f⟩:=h.slots t _ l
        cases f with | d f=>
        cases f;simp at c;simp [k,← c]
      · simp at c
theorem qrj {nx : Nat} : RelV w Z inj nx (.d (.tup [])) undef:=.d (.tup qb qb)
theorem qgg {ops : Array Oper} {o : Oper} (b : Ql ops st o = some false) : Zz P base ops o st (st.putD o.dst (.d (.tup []))):=by
  intro ro Q w Z inj a Ds K h hd hb _ c;unfold Jn;rw [q2q h b];simp only [Bool.false_eq_true,if_false];exact ⟨fun _ _=>trivial,c _ _ (q2x h hb .refl h.heap (Nat.le_refl _) qrj hd)⟩
theorem qhy {op : Op} {v : V} {st1 : AS} (a : opFn T st op = some (v,st1)) : ∀ c,op≠.defer c:=by
  rintro c rfl;simp [opFn] at a
theorem qbz {ops : Array Oper} {o : Oper} {v : V} {st1 : AS} (p : Yk P T) (n : Ql ops st o = some true) (k : opFn T st o.op = some (v,st1)) : Zz P base ops o st (st1.putD o.dst v):=by
  intro ro Q w Z inj a Ds K h hd hb _ l;unfold Jn;rw [q2q h n];simp only [if_true];refine ⟨fun _ _=>trivial,?_⟩;rw [show (Fw ro).round = ro from rfl,Oper.semAt_eq ro _ o (qhy k)];obtain ⟨x,w',inj',d,m,j,g,c,f⟩:=qhz p h k;obtain ⟨sl1,hp1,nx1⟩:=st1;simp only at c f m j g;subst c;have b:=q2x h hb g j f m hd;rcases d with d | ⟨d,rfl⟩
  · rw [d];exact l _ _ b
  · rw [d];exact l _ _ b
def Zx (P : Program) (f : FuncId) (vs : List V) (hp : List (Nat × Blk)) (nx : Nat) (v : V) (hp' : List (Nat × Blk)) (nx' : Nat) : Prop:=
  (∀ (args : Array Value) (w : World),(callFunc f args).run P w = .ok (.enter f args) w)∧
  ∀ (w : World) (Z : Nat→Prop) (inj : Inj) (xs : Array Value),RelH w Z inj hp nx→LRel w Z inj nx vs xs→
    CallsIn (Fw none) 0 P f xs w (fun e w'=>∃ x Z' inj',e = .returned x∧RelH w' Z' inj' hp' nx'∧Ext w Z inj hp w' Z' inj' hp' nx∧RelV w' Z' inj' nx' v x∧nx≤nx')
theorem qb8 {c : Call} {o : Oper} {f : FuncId} {v : List V} (h : RelS w Z inj st a Ds) (y : o.op = .call c) (j : callee st c = some (f,v)) (k : ∀ (args : Array Value) (w : World),(callFunc f args).run P w = .ok (.enter f args) w) :
    ∃ xs,(execOp a.eval o).run P w = .ok (.enter f xs) w∧LRel w Z inj st.nx v xs:=by
  obtain ⟨dst,op,type,pos,after,guard⟩:=o;simp only at y;subst y;obtain ⟨r,args,argTypes⟩:=c;unfold callee at j;simp only at j;cases r <;> simp only [reduceCtorEq] at j
  rename_i g
  have app : ∀ {as b : List V} {xs ys : Array Value},LRel w Z inj st.nx as xs→LRel w Z inj st.nx b ys→LRel w Z inj st.nx (as ++ b) (xs ++ ys):=by
    intro as b xs ys l p;refine ⟨by simp [l.1,p.1],fun i d c hd j=>?_⟩;by_cases hi : i < as.length
    · rw [List.getElem?_append_left hi] at hd;rw [Array.getElem?_append_left (by rw [← l.1];exact hi)] at j;exact l.2 i d c hd j
    · rw [List.getElem?_append_right q6] at hd;rw [Array.getElem?_append_right (by rw [← l.1];omega),← l.1] at j;exact p.2 _ d c hd j
  have x : (args.toList.map a.eval).toArray = args.map a.eval:=by apply Array.ext';simp
  split at j <;> simp at j
  · rename_i f' b u t s;obtain ⟨rfl,rfl⟩:=j;have n:=K5 h t;generalize m : a.eval g = gv at n
    cases n with | d n=>
    cases n with | @fn _ _ cs l p=>
    have q:=q6r h s;rw [x] at q;refine ⟨args.map a.eval ++ cs,?_,app q ⟨by simpa using l,fun i d c hd j=>?_⟩⟩
    · simp [execOp,resolve,m,Deferred.ofValue,invoke,k]
    · simp only [List.getElem?_map,Kt] at hd;obtain ⟨z,hd,rfl⟩:=hd;exact .d (p i z c hd j)
  · rename_i f' b u t s;obtain ⟨rfl,rfl⟩:=j;have n:=K5 h t;generalize m : a.eval g = gv at n
    cases n with | @fn _ _ cs l p=>
    have q:=q6r h s;rw [x] at q;refine ⟨args.map a.eval ++ cs,?_,app q ⟨l,p⟩⟩;simp [execOp,resolve,m,Deferred.ofValue,invoke,k]
theorem qn8 {ops : Array Oper} {o : Oper} {c : Call} {f : FuncId} {g : List V} {v : V} {hp' : List (Nat × Blk)} {nx' : Nat} (p : Ql ops st o = some true) (j : o.op = .call c) (n : callee st c = some (f,g))
    (b : Zx P f g st.hp st.nx v hp' nx') : Zz P base ops o st ({sl:=st.sl,hp:=hp',nx:=nx' : AS}.putD o.dst v):=by
  intro ro Q w Z inj a Ds K h hd hb _ t;unfold Jn;rw [q2q h p];simp only [if_true];refine ⟨fun _ _=>trivial,?_⟩;obtain ⟨xs,m,k⟩:=qb8 h j n b.1;rw [show (Fw ro).round = ro from rfl,Oper.semAt_eq ro _ o (by rintro u d;rw [j] at d;cases d),m,Oper.uponIn_enter];refine ⟨fun h=>by simp [Fw] at h,?_⟩;refine CallsIn.mono (b.2 w Z inj xs h.heap k) ?_;rintro e w' ⟨x,Z',inj',rfl,s,l,r,q⟩;exact t _ _ (q2x h hb l s q r hd)
theorem qgf {ops : Array Oper} {o : Oper} {c : Call} {f : FuncId} {vs : List V} {ds : List DV} {v : V} {hp' : List (Nat × Blk)} {nx' : Nat} {r' r : DV} (hg : Ql ops st o = some true) (ho : o.op = .call c) (hc : callee st c = some (f,vs))
    (ab : Kh st.hp vs = some ds) (g : Zx P f (ds.map .d) [] 0 v hp' nx') (aa : toD hp' 8 v = some r') (u : DLe r' r) (hs : vs.all V.isD = true∨r.scalar = true) : Zz P base ops o st (st.putD o.dst (.d r)):=by
  intro ro Q w Z inj a Ds K h hd hb _ hK;unfold Jn;rw [q2q h hg];simp only [if_true];refine ⟨fun _ _=>trivial,?_⟩;obtain ⟨xs,hr,hl⟩:=qb8 h ho hc g.1;rw [show (Fw ro).round = ro from rfl,Oper.semAt_eq ro _ o (by rintro c' h';rw [ho] at h';cases h'),hr,Oper.uponIn_enter];refine ⟨fun h=>by simp [Fw] at h,?_⟩;have j : ∀ (i : Inj) b,¬ im ([] : List (Nat × Blk)) i b:=by rintro i b ⟨n,blk,o,k,_⟩;simp [find] at k
  have keep : ∀ {Z0 : Nat→Prop} {w' : World} {Z' : Nat→Prop} {inj' : Inj},Ext w Z0 inj [] w' Z' inj' hp' 0→∀ b,b < w.heap.size→w'.heap[b]? = w.heap[b]?:=fun e b hb=>e.keep b hb (j _ b)
  have back : ∀ {Z0 : Nat→Prop} {w' : World} {Z' : Nat→Prop} {inj' : Inj} (m : Nat→Prop),Ext w Z0 inj [] w' Z' inj' hp' 0→(∀ b,Z b→m b)→(∀ b,m b→Z b∨w.heap.size≤b)→(∀ b,m b→∃ c e f,w'.heap[b]? = some (.cells c e f))→
      RelH w' m inj st.hp st.nx∧Ext w Z inj st.hp w' m inj st.hp st.nx:=by
    intro Z0 w' Z' inj' m e z y t
    have hk:=keep e
    have hE : Ext w Z inj st.hp w' m inj st.hp st.nx:=⟨e.size,fun b hb _=>hk b hb,fun _ h=>.inl h,e.big,e.loops,z,fun b hb=>(y b hb).elim .inl (fun h=>.inr (.inr h)),fun _ _=>rfl,e.tape,e.os,e.output,e.frz⟩
    refine ⟨⟨fun n b hn=>?_,h.heap.sep,?_,?_,t⟩,hE⟩
    · obtain ⟨k,h2⟩:=h.heap.blk n b hn
      refine ⟨k,h2.mono (hE.zkeep h.heap) z e.big (fun _ _=>rfl) (Nat.le_refl _) k fun p hp ak=>hk _ (h.heap.im_lt ⟨n,b,p.2,hn,ak,hp⟩)⟩
    · intro n b p k h2 h3 hz
      rcases y _ hz with h4 | h4
      · exact h.heap.out n b p k h2 h3 h4
      · have:=h.heap.im_lt (b:=p.1) ⟨n,b,p.2,k,h2,h3⟩;omega
    · intro b hb
      obtain ⟨c,e',f',hc⟩:=t b hb
      exact Zj hc
  rcases hs with hs | hs
  ·
    have h0 : RelH w Z inj [] 0:=⟨fun _ _ h=>by simp [find] at h,fun _ _ _ _ _ _ h=>by simp [find] at h,fun _ _ _ h=>by simp [find] at h,h.heap.zs,h.heap.zc⟩
    refine CallsIn.mono (g.2 w Z inj xs h0 (qo0 ab hs hl inj)) ?_;rintro e w' ⟨x,Z',inj',rfl,hh,l,hv,hn⟩;have hD:=(q92 hh 8 aa hv).le u
    obtain ⟨s,q⟩:=back (zAll w' Z' inj' hp') l (fun b hb=>.inl (l.zin b hb))
      (fun b hb=>by
        rcases hb with hb | ⟨hb,_⟩
        · rcases l.zout b hb with h | h | h
          · exact .inl h
          · exact absurd h (j _ _)
          · exact .inr h
        · rcases l.imm b hb with h | h
          · exact absurd h (j _ _)
          · exact .inr h)
      (fun b hb=>by
        rcases hb with hb | ⟨_,hb⟩
        · exact hh.zc b hb
        · exact hb)
    exact hK _ _ (q2x h hb q s (Nat.le_refl _) (.d hD) hd)
  ·
    have h0 : RelH w (zAll w Z inj st.hp) inj [] 0:=⟨fun _ _ h=>by simp [find] at h,fun _ _ _ _ _ _ h=>by simp [find] at h,fun _ _ _ h=>by simp [find] at h,
      fun b hb=>by
        rcases hb with hb | ⟨hb,_⟩
        · exact h.heap.zs b hb
        · exact h.heap.im_lt hb,
      fun b hb=>by
        rcases hb with hb | ⟨_,hb⟩
        · exact h.heap.zc b hb
        · exact hb⟩
    refine CallsIn.mono (g.2 w _ inj xs h0 (qo1 h.heap ab hl inj)) ?_;rintro e w' ⟨x,Z',inj',rfl,hh,l,hv,hn⟩;have hD:=(q92 hh 8 aa hv).le u;obtain ⟨s,q⟩:=back Z l (fun _ h=>h) (fun _ h=>.inl h) (fun b hb=>by rw [keep l b (h.heap.zs b hb)];exact h.heap.zc b hb);exact hK _ _ (q2x h hb q s (Nat.le_refl _) (.d (qrt hD hs)) hd)
end
end Go.Am
namespace Go.Am
open Go
variable {P : Program} {T : Tab}
section
variable {st st1 st2 : AS} {v : V}
theorem Ye {α : Type} {x : Option α} {f : α→V} : (x.map fun a=>(f a,st)) = some (v,st1)→st1 = st∧(x.map fun a=>(f a,st2)) = some (v,st2):=by
  cases x <;> simp
  rintro rfl rfl;simp
theorem qbp {ev ev' : Operand→Option V} : ∀ {l : List (Nat × Operand)},(∀ x∈l.map (·.2),ev' x = ev x)→Zm ev' l = Zm ev l
  | [],_=>rfl
  | (i,o)::r,h=>by
    have b:=h o qb
    have c:=qbp (l:=r) (fun x a=>h x (by simp at a ⊢;exact .inr a))
    simp only [Zm,b,c]
theorem q6q {ev ev' : Operand→Option V} : ∀ {l : List Operand},(∀ x∈l,ev' x = ev x)→evL ev' l = evL ev l
  | [],_=>rfl
  | o::r,h=>by
    have a:=h o qb
    have b:=q6q (l:=r) (fun x c=>h x (by simp [c]))
    simp only [evL,a,b]
theorem qnw {i : TI} (a : st2.hp = st.hp) : J7 st2 i v = J7 st i v:=by
  cases v <;> simp only [J7,AS.blk,a]
theorem qku {b : Builtin} {c : Array TypeId} {a : List V} (h : Ks T st b c a = some (v,st1)) (hb : b = .len∨b = .min∨b = .max) : st1 = st∧Ks T st2 b c a = some (v,st2):=by
  rcases hb with rfl | rfl | rfl
  · rcases a with _ | ⟨x,_ | ⟨y,r⟩⟩
    · simp [Ks] at h
    · simp only [Ks] at h ⊢;revert h;split
      · split
        · split
          · simp;rintro rfl rfl;simp
          · split <;> simp
            all_goals rintro rfl rfl;simp
          · split <;> simp
            all_goals rintro rfl rfl;simp
          · simp
        · simp
      · simp
    · simp [Ks] at h
  · rcases a with _ | ⟨x,r⟩
    · simp [Ks] at h
    · simp only [Ks] at h ⊢;revert h;exact Ye
  · rcases a with _ | ⟨x,r⟩
    · simp [Ks] at h
    · simp only [Ks] at h ⊢;revert h;exact Ye
theorem qd1 {op : Op} (h : opFn T st op = some (v,st1)) (m : touch op≤1) (q : touch op≠0→st2.hp = st.hp) (a : ∀ x∈op.operands,st2.ev x = st.ev x) : st1 = st∧opFn T st2 op = some (v,st2):=by
  cases op <;> simp only [opFn,reduceCtorEq] at h <;> simp only [touch,Nat.reduceLeDiff] at m
  case move x=>
    simp only [opFn,a x (by simp [Op.operands])] at h ⊢;revert h;exact Ye
  case assign x=>
    simp only [opFn,a x (by simp [Op.operands])] at h ⊢;revert h;exact Ye
  case pick c x y=>
    simp only [opFn,a c (by simp [Op.operands]),a x (by simp [Op.operands]),a y (by simp [Op.operands])] at h ⊢;revert h;split
    · exact Ye
    · exact Ye
    · simp
  case load t p=>
    simp only [opFn,a p (by simp [Op.operands])] at h ⊢;revert h;split
    · rw [qnw (q (by simp [touch]))];exact Ye
    · simp
  case lookup t x k ok=>
    have hb : ∀ n,st2.blk n = st.blk n:=fun n=>by simp only [AS.blk,q (by simp [touch])]
    simp only [opFn,a x (by simp [Op.operands]),a k (by simp [Op.operands]),hb] at h ⊢;revert h;split
    · split
      · split
        · simp only [Kt];rintro ⟨e,r,z⟩;cases z;exact ⟨rfl,e,r,rfl⟩
        · simp
      · simp
    · simp
  case build t ps=>
    have:=qbp (ev:=st.ev) (ev':=st2.ev) (l:=ps.toList) (fun x g=>a x (by simpa [Op.operands] using g));simp only [opFn,this] at h ⊢;revert h;split
    · split
      · split
        · exact Ye
        · simp
      · simp
    · simp
  case binOp op t x y u=>
    simp only [opFn,a x (by simp [Op.operands]),a y (by simp [Op.operands])] at h ⊢;revert h;split
    · split
      · split
        · split <;> simp
          · rintro rfl rfl;simp
          · rintro rfl rfl;simp
        · simp
      · simp
    · exact Ye
    · split
      · exact Ye
      · simp
    · simp
  case unOp op t x=>
    simp only [opFn,a x (by simp [Op.operands])] at h ⊢;revert h;split
    · exact Ye
    · simp
  case convert s d x=>
    simp only [opFn,a x (by simp [Op.operands])] at h ⊢;revert h;split
    · split <;> simp
      rintro rfl rfl;simp
    · simp
  case makeFunc fn first caps=>
    cases fn <;> simp only [reduceCtorEq,opFn] at h ⊢
    have:=q6q (ev:=st.ev) (ev':=st2.ev) (l:=caps.toList) (fun x g=>a x (by simp [Op.operands] at g ⊢;exact .inr g));rw [this];revert h;split
    · exact Ye
    · simp
  case slice t x lo hi mx=>
    have hb : ∀ (d : Nat) (o : Option Operand),(o = lo∨o = hi)→bound st2 d o = bound st d o:=by
      rintro d o w
      cases o with
      | none=>rfl
      | some o=>
        simp only [bound];rw [a o (by rcases w with rfl | rfl <;> simp [Op.operands])]
    simp only [opFn,a x (by simp [Op.operands])] at h ⊢;revert h;split
    · split
      · split
        · rename_i n _;rw [hb 0 lo (.inl rfl),hb n hi (.inr rfl)];split
          · exact Ye
          · simp
        · simp
      · simp
    · simp
  case fieldAddr s p f=>
    simp only [opFn,a p (by simp [Op.operands])] at h ⊢;revert h;split
    · split
      · exact Ye
      · simp
    · simp
  case field s x f=>
    simp only [opFn,a x (by simp [Op.operands])] at h ⊢;revert h;split
    · split
      · split
        · exact Ye
        · simp
      · simp
    · simp
  case indexAddr t x ix=>
    simp only [opFn,a x (by simp [Op.operands]),a ix (by simp [Op.operands])] at h ⊢;revert h;split
    · exact Ye
    · simp
  case index t x ix=>
    simp only [opFn,a x (by simp [Op.operands]),a ix (by simp [Op.operands])] at h ⊢;revert h;split
    · split
      · split
        · split
          · exact Ye
          · simp
        · simp
      · split
        · exact Ye
        · simp
      · simp
    · simp
  case extract x k=>
    simp only [opFn,a x (by simp [Op.operands])] at h ⊢;revert h;split
    · exact Ye
    · exact Ye
    · simp
  case nilCheck x=>
    simp only [opFn,a x (by simp [Op.operands])] at h ⊢;revert h;split <;> simp
    all_goals rintro rfl rfl;simp
  case call c=>
    obtain ⟨j,args,argTypes⟩:=c;cases j <;> simp only [reduceCtorEq] at h
    rename_i b;have:=q6q (ev:=st.ev) (ev':=st2.ev) (l:=args.toList) (fun x g=>a x (by simpa [Op.operands,Call.operands] using g));simp only [opFn,this] at h ⊢;revert h;split
    · have hb : b = .len∨b = .min∨b = .max:=by
        revert m;cases b <;> simp
      intro h;exact qku h hb
    · simp
end
end Go.Am
namespace Go.Am
open Go
variable {P : Program} {T : Tab}
def qav (x : Fp) (st st2 : AS) : Prop:=(∀ m∈x.2,find st2.hp m = find st.hp m)∧match x.1 with
  | none=>∀ m,find st2.hp m = find st.hp m
  | some r=>∀ m∈r,find st2.hp m = find st.hp m
inductive Out (T : Tab) (st : AS) (op : Op) (v : V) (st1 : AS) : Prop
  | calm : st1.sl = st.sl→st1.nx = st.nx→(∀ m,m ∉ (fp st op).2→find st1.hp m = find st.hp m)→(∀ m,find st.hp m = none→find st1.hp m = none)→
      (∀ st2,(∀ x∈op.operands,st2.ev x = st.ev x)→qav (fp st op) st st2→∃ hp3,opFn T st2 op = some (v,⟨st2.sl,hp3,st2.nx⟩)∧(∀ m∈(fp st op).2,find hp3 m = find st1.hp m)∧(∀ m,m ∉ (fp st op).2→find hp3 m = find st2.hp m))→Out T st op v st1
  | new (mk : Nat→V) (b : Blk) (hp1 : List (Nat × Blk)) : ((∃ es,mk = fun n=>.ref n es 0 0)∨(∃ es l,mk = fun n=>.hs n es 0 l)∨(mk = fun n=>.mp n))→v = mk st.nx→st1 = ⟨st.sl,(st.nx,b)::hp1,st.nx + 1⟩→st.nx∈(fp st op).2→
      (∀ m,m ∉ (fp st op).2→find hp1 m = find st.hp m)→(∀ m,find st.hp m = none→find hp1 m = none)→
      (∀ st2,(∀ x∈op.operands,st2.ev x = st.ev x)→qav (fp st op) st st2→∃ hp3,opFn T st2 op = some (mk st2.nx,⟨st2.sl,(st2.nx,b)::hp3,st2.nx + 1⟩)∧(∀ m∈(fp st op).2,find hp3 m = find hp1 m)∧(∀ m,m ∉ (fp st op).2→find hp3 m = find st2.hp m)∧(∀ m c,find hp3 m = some c→c = .dead∨find st2.hp m = some c))→Out T st op v st1
section
variable {st st1 st2 : AS} {v : V}
theorem qnx {i : TI} {p : V} (b : ∀ m∈K1 p,find st2.hp m = find st.hp m) : J7 st2 i p = J7 st i p:=by
  cases p with
  | ref n es a j=>
    have : st2.blk n = st.blk n:=b n (by simp [K1]);simp only [J7,this]
  | d x=>cases x <;> rfl
  | _=>rfl
theorem qfa {x : V} (a : ∀ m∈K1 x,find st2.hp m = find st.hp m) : Yr st2 x = Yr st x:=by
  cases x with
  | hs n es o l=>
    have : st2.blk n = st.blk n:=a n (by simp [K1]);simp only [Yr,this]
  | d x=>cases x <;> rfl
  | _=>rfl
theorem qbl {x : V} (a : ∀ m∈K1 x,find st2.hp m = find st.hp m) : Yf st2 x = Yf st x:=by
  cases x with
  | hs n es o l=>
    have : st2.blk n = st.blk n:=a n (by simp [K1]);simp only [Yf,this]
  | d x=>cases x <;> rfl
  | _=>rfl
theorem J5 {α : Type} {l : List (Nat × α)} {k t : Nat} {x : α} (h : k≠t) : find (repl l k x) t = find l t:=by rw [Ym,qs h]
theorem q4c {α : Type} {l : List (Nat × α)} {k t : Nat} {x : α} (h : find l t = none) : find (repl l k x) t = none:=by
  rw [Ym];split
  · rename_i e;subst e;rw [h];rfl
  · exact h
theorem q4b {l a : List (Nat × Blk)} {k t : Nat} {x : Blk} (h : find a t = find l t) : find (repl a k x) t = find (repl l k x) t:=by
  rw [Ym,Ym];split
  · rename_i e;subst e;rw [h]
  · exact h
theorem qrl {l : List (Nat × Blk)} {k m : Nat} {c : Blk} (h : find (repl l k .dead) m = some c) : c = .dead∨find l m = some c:=by
  rw [Ym] at h;split at h
  · cases a : find l k with
    | none=>rw [a] at h;cases h
    | some b=>rw [a] at h;cases h;exact .inl rfl
  · exact .inr h
theorem qwz {i : TI} {p y : V} (h : Zv st i p y = some st1) : ∃ n b,K1 p = [n]∧st1 = ⟨st.sl,repl st.hp n b,st.nx⟩∧∀ st2 : AS,find st2.hp n = find st.hp n→Zv st2 i p y = some ⟨st2.sl,repl st2.hp n b,st2.nx⟩:=by
  cases p with
  | ref n k a j=>
    simp only [Zv] at h;split at h
    · cases h
    · rename_i l;have key : ∀ b : Blk,∀ st2 : AS,st2.setBlk n b = ⟨st2.sl,repl st2.hp n b,st2.nx⟩:=fun _ _=>rfl;split at h
      · rename_i es xs hb;split at h
        · rename_i cs f g;split at h
          · rename_i c;split at h
            · rename_i ds hd;cases h;refine ⟨n,_,rfl,key _ _,fun st2 e=>?_⟩;have d : st2.blk n = st.blk n:=e;simp only [Zv,qs l,d,hb,f,g,qp c,hd];rfl
            · rename_i hd;cases h;refine ⟨n,_,rfl,key _ _,fun st2 e=>?_⟩;have d : st2.blk n = st.blk n:=e;simp only [Zv,qs l,d,hb,f,g,qp c,hd];rfl
          · cases h
        · cases h
      · rename_i es xs hb;split at h
        · rename_i cs f g;split at h
          · rename_i c;cases h;refine ⟨n,_,rfl,key _ _,fun st2 e=>?_⟩;have d : st2.blk n = st.blk n:=e;simp only [Zv,qs l,d,hb,f,g,qp c];rfl
          · cases h
        · cases h
      · cases h
  | _=>simp [Zv] at h
theorem qm7 {p y : V} (h : copyV st p y = some (v,st1)) : ∃ n b,K1 p = [n]∧st1 = ⟨st.sl,repl st.hp n b,st.nx⟩∧∀ st2 : AS,find st2.hp n = find st.hp n→(∀ m∈K1 y,find st2.hp m = find st.hp m)→copyV st2 p y = some (v,⟨st2.sl,repl st2.hp n b,st2.nx⟩):=by
  cases p with
  | hs n es o l=>
    simp only [copyV] at h;split at h
    · rename_i k xs ys hb a;split at h
      · rename_i c;cases h;refine ⟨n,_,rfl,rfl,fun st2 e f=>?_⟩;have d : st2.blk n = st.blk n:=e;simp only [copyV,d,hb,qbl f,a,qp c];rfl
      · cases h
    · cases h
  | _=>simp [copyV] at h
theorem qlt {i : TI} {p : V} (h : J4 st i p = some (v,st1)) : (st1 = st∧∀ st2 : AS,J4 st2 i p = some (v,st2))∨
    ∃ n b,K1 p = [n]∧st1 = ⟨st.sl,repl st.hp n b,st.nx⟩∧∀ st2 : AS,find st2.hp n = find st.hp n→J4 st2 i p = some (v,⟨st2.sl,repl st2.hp n b,st2.nx⟩):=by
  cases p with
  | d x=>
    cases x <;> simp only [J4,reduceCtorEq,Option.some.injEq,Prod.mk.injEq] at h
    obtain ⟨rfl,rfl⟩:=h;exact .inl ⟨rfl,fun st2=>rfl⟩
  | hs n es o l=>
    right;simp only [J4] at h;split at h
    · rename_i k xs hb;split at h
      · rename_i a;cases h;refine ⟨n,_,rfl,rfl,fun st2 e=>?_⟩;have c : st2.blk n = st.blk n:=e;simp only [J4,c,hb,qp a];rfl
      · cases h
    · cases h
  | _=>simp [J4] at h
theorem qkl {i : TI} {p y : V} (h : Yl st i p y = some (v,st1)) :
    (st1 = st∧∀ st2 : AS,(∀ m∈K1 p ++ K1 y,find st2.hp m = find st.hp m)→Yl st2 i p y = some (v,st2))∨
    (∃ es l b hp1,v = .hs st.nx es 0 l∧st1 = ⟨st.sl,(st.nx,b)::hp1,st.nx + 1⟩∧((hp1 = st.hp∧∀ st2 : AS,(∀ m∈K1 p ++ K1 y,find st2.hp m = find st.hp m)→Yl st2 i p y = some (.hs st2.nx es 0 l,⟨st2.sl,(st2.nx,b)::st2.hp,st2.nx + 1⟩))∨
      (∃ n,n∈K1 p∧hp1 = repl st.hp n .dead∧∀ st2 : AS,(∀ m∈K1 p ++ K1 y,find st2.hp m = find st.hp m)→Yl st2 i p y = some (.hs st2.nx es 0 l,⟨st2.sl,(st2.nx,b)::repl st2.hp n .dead,st2.nx + 1⟩)))):=by
  cases p with
  | d x=>
    cases x <;> simp only [Yl,reduceCtorEq] at h
    have c : ∀ st2 : AS,(∀ m∈K1 (.d .nilsl) ++ K1 y,find st2.hp m = find st.hp m)→Yf st2 y = Yf st y∧Yr st2 y = Yr st y:=fun st2 e=>
      ⟨qbl fun m g=>e m (by simp [g]),qfa fun m g=>e m (by simp [g])⟩
    split at h
    · rename_i ys hd;split at h
      · rename_i a;split at h
        · rename_i j;cases h;refine .inl ⟨rfl,fun st2 e=>?_⟩;simp only [Yl,(c st2 e).1,hd,qp a,qp j]
        · rename_i j;cases h;refine .inr ⟨_,_,_,_,rfl,rfl,.inl ⟨rfl,fun st2 e=>?_⟩⟩;simp only [Yl,(c st2 e).1,hd,qp a,qs j];rfl
      · cases h
    · rename_i hd;split at h
      · rename_i ys f;split at h
        · rename_i a;split at h
          · rename_i j;cases h;refine .inl ⟨rfl,fun st2 e=>?_⟩;simp only [Yl,(c st2 e).1,(c st2 e).2,hd,f,qp a,qp j]
          · rename_i j;cases h;refine .inr ⟨_,_,_,_,rfl,rfl,.inl ⟨rfl,fun st2 e=>?_⟩⟩;simp only [Yl,(c st2 e).1,(c st2 e).2,hd,f,qp a,qs j];rfl
        · cases h
      · cases h
  | hs n es o l=>
    have c : ∀ st2 : AS,(∀ m∈K1 (.hs n es o l) ++ K1 y,find st2.hp m = find st.hp m)→Yf st2 y = Yf st y∧Yr st2 y = Yr st y∧st2.blk n = st.blk n:=fun st2 e=>
      ⟨qbl fun m g=>e m (by simp [g]),qfa fun m g=>e m (by simp [g]),e n (by simp [K1])⟩
    simp only [Yl] at h;split at h
    · rename_i k xs ys hb hd;split at h
      · rename_i f;cases h;refine .inr ⟨_,_,_,_,rfl,rfl,.inr ⟨n,by simp [K1],rfl,fun st2 e=>?_⟩⟩;obtain ⟨r,_,s⟩:=c st2 e;simp only [Yl,r,s,hb,hd,qp f];rfl
      · cases h
    · rename_i k xs hb hd;split at h
      · rename_i ys q;split at h
        · rename_i f;cases h;refine .inr ⟨_,_,_,_,rfl,rfl,.inr ⟨n,by simp [K1],rfl,fun st2 e=>?_⟩⟩;obtain ⟨r,t,s⟩:=c st2 e;simp only [Yl,r,t,s,hb,hd,q,qp f];rfl
        · cases h
      · cases h
    · rename_i k xs hb;split at h
      · rename_i ys q;split at h
        · rename_i f;cases h;refine .inr ⟨_,_,_,_,rfl,rfl,.inr ⟨n,by simp [K1],rfl,fun st2 e=>?_⟩⟩;obtain ⟨r,t,s⟩:=c st2 e;simp only [Yl,r,t,s,hb,q,qp f];rfl
        · cases h
      · cases h
    · cases h
  | _=>simp [Yl] at h
theorem qa1 {op : Op} (h : opFn T st op = some (v,st1)) (a : touch op = 0) : Out T st op v st1:=by
  have f:=(qd1 (st2:=st) h q6 (fun e=>absurd a e) (fun _ _=>rfl)).1;subst f;refine .calm rfl rfl (fun _ _=>rfl) (fun _ h=>h) fun st2 g c=>?_;have b:=(qd1 (st2:=st2) h q6 (fun e=>absurd a e) g).2;exact ⟨st2.hp,b,fun m d=>c.1 m d,fun _ _=>rfl⟩
theorem qpt {t : TypeId} {p : Operand} (h : opFn T st (.load t p) = some (v,st1)) : Out T st (.load t p) v st1:=by
  simp only [opFn] at h
  cases b : T t with
  | none=>simp [b] at h
  | some i=>
    cases hp : st.ev p with
    | none=>simp [b,hp] at h
    | some x=>
      simp only [b,hp] at h;obtain ⟨rfl,g⟩:=Ye (st2:=st) h;have a : fp st1 (.load t p) = (some (K1 x),[]):=by simp only [fp,hp]
      refine .calm rfl rfl (fun _ _=>rfl) (fun _ h=>h) fun st2 f c=>?_;rw [a] at c;refine ⟨st2.hp,?_,fun m d=>by rw [a] at d;simp at d,fun _ _=>rfl⟩;simp only [opFn,b,f p (by simp [Op.operands]),hp,qnx (st:=st1) (st2:=st2) c.2];simp_all
theorem q72 {op : Op} {mk : Nat→V} {b : Blk} (f : (∃ es,mk = fun n=>.ref n es 0 0)∨(∃ es l,mk = fun n=>.hs n es 0 l)∨(mk = fun n=>.mp n)) (q : v = mk st.nx) (a : st1 = st.new b) (o : fp st op = (some [],[st.nx]))
    (j : ∀ st2 : AS,(∀ x∈op.operands,st2.ev x = st.ev x)→opFn T st2 op = some (mk st2.nx,st2.new b)) : Out T st op v st1:=by
  refine .new mk b st.hp f q a (by rw [o];simp) (fun _ _=>rfl) (fun _ h=>h) fun st2 g d=>⟨st2.hp,j st2 g,fun m k=>d.1 m k,fun _ _=>rfl,fun m c p=>.inr p⟩
theorem qpw {t : TypeId} {p x : Operand} (h : opFn T st (.store t p x) = some (v,st1)) : Out T st (.store t p x) v st1:=by
  simp only [opFn] at h
  cases f : T t with
  | none=>simp [f] at h
  | some i=>
    cases hp : st.ev p with
    | none=>simp [f,hp] at h
    | some pv=>
      cases j : st.ev x with
      | none=>simp [f,hp,j] at h
      | some xv=>
        simp only [f,hp,j] at h
        cases hs : Zv st i pv xv with
        | none=>simp [hs] at h
        | some r=>
          simp only [hs,Option.map_some,Option.some.injEq,Prod.mk.injEq] at h;obtain ⟨rfl,rfl⟩:=h;obtain ⟨n,b,l,rfl,d⟩:=qwz hs;have c : fp st (.store t p x) = (some [n],[n]):=by simp only [fp,hp,l]
          refine .calm rfl rfl (fun m a=>?_) (fun m a=>q4c a) fun st2 k g=>?_
          · rw [c] at a;exact J5 (by simp at a;omega)
          · rw [c] at g ⊢;refine ⟨repl st2.hp n b,?_,fun m a=>q4b (g.1 m a),fun m a=>J5 (by simp at a;omega)⟩;simp only [opFn,f,k p (by simp [Op.operands]),k x (by simp [Op.operands]),hp,j,d st2 (g.1 n qb),Option.map_some]
theorem qmz {args : Array Operand} {ats : Array TypeId} {s x : V} (h : evL st.ev args.toList = some [s,x]) : fp st (.call {callee:=.builtin .append,args:=args,argTypes:=ats}) = (some (K1 s ++ K1 x),st.nx::K1 s):=by
  simp only [fp,h]
theorem qn1 {args : Array Operand} {ats : Array TypeId} {s x : V} (h : evL st.ev args.toList = some [s,x]) : fp st (.call {callee:=.builtin .copy,args:=args,argTypes:=ats}) = (some (K1 s ++ K1 x),K1 s):=by
  simp only [fp,h]
theorem qn0 {args : Array Operand} {ats : Array TypeId} {x : V} (h : evL st.ev args.toList = some [x]) : fp st (.call {callee:=.builtin .clear,args:=args,argTypes:=ats}) = (some (K1 x),K1 x):=by
  simp only [fp,h]
theorem qn2 {args : Array Operand} {ats : Array TypeId} {m k : V} (h : evL st.ev args.toList = some [m,k]) : fp st (.call {callee:=.builtin .delete,args:=args,argTypes:=ats}) = (some (K1 m),K1 m):=by
  simp only [fp,h]
theorem qpu {t : TypeId} {x k : Operand} {ok : Bool} (h : opFn T st (.lookup t x k ok) = some (v,st1)) : Out T st (.lookup t x k ok) v st1:=by
  have w:=h;simp only [opFn] at h;split at h <;> try simp only [reduceCtorEq] at h
  rename_i i n l j f r;split at h <;> try simp only [reduceCtorEq] at h
  rename_i ks es z p u q;split at h <;> try simp only [reduceCtorEq] at h
  rename_i o
  cases b : mget i.eagg ks z l es with
  | none=>rw [b] at h;simp at h
  | some e=>
    rw [b] at h;simp only [Option.map_some,Option.some.injEq,Prod.mk.injEq] at h;obtain ⟨rfl,rfl⟩:=h;have a : fp st (.lookup t x k ok) = (some [n],[]):=by simp only [fp,f];rfl
    refine .calm rfl rfl (fun _ _=>rfl) (fun _ h=>h) fun st2 d c=>?_;rw [a] at c;have s : st2.blk n = st.blk n:=c.2 n qb;refine ⟨st2.hp,?_,fun m g=>by rw [a] at g;simp at g,fun _ _=>rfl⟩;simp only [opFn,j,d x (by simp [Op.operands]),d k (by simp [Op.operands]),f,r,p,s,u,q,qp o,b,Option.map_some]
theorem qpv {t : TypeId} {m k x : Operand} (h : opFn T st (.mapUpdate t m k x) = some (v,st1)) : Out T st (.mapUpdate t m k x) v st1:=by
  simp only [opFn] at h;split at h <;> try simp only [reduceCtorEq] at h
  rename_i i n p l o j s g;split at h <;> try simp only [reduceCtorEq] at h
  rename_i ks es r w;split at h <;> try simp only [reduceCtorEq] at h
  rename_i q
  cases c : mput i.eagg ks p l es with
  | none=>rw [c] at h;simp at h
  | some es'=>
    rw [c] at h;simp only [Option.map_some,Option.some.injEq,Prod.mk.injEq] at h;obtain ⟨rfl,rfl⟩:=h;have b : fp st (.mapUpdate t m k x) = (some [n],[n]):=by simp only [fp,j];rfl
    refine .calm rfl rfl (fun m a=>?_) (fun m a=>q4c a) fun st2 f d=>?_
    · rw [b] at a;exact J5 (by simp at a;omega)
    · rw [b] at d ⊢;have u : st2.blk n = st.blk n:=d.1 n qb;refine ⟨repl st2.hp n (.mp es'),?_,fun m a=>q4b (d.1 m a),fun m a=>J5 (by simp at a;omega)⟩;simp only [opFn,o,f m (by simp [Op.operands]),f k (by simp [Op.operands]),f x (by simp [Op.operands]),j,s,g,r,u,w,qp q,c,Option.map_some];rfl
theorem qps {b : Builtin} {args : Array Operand} {ats : Array TypeId} (h : opFn T st (.call {callee:=.builtin b,args:=args,argTypes:=ats}) = some (v,st1)) : Out T st (.call {callee:=.builtin b,args:=args,argTypes:=ats}) v st1:=by
  have h0:=h;simp only [opFn] at h
  cases y : evL st.ev args.toList with
  | none=>simp [y] at h
  | some vs=>
    simp only [y] at h
    have q : ∀ st2 : AS,(∀ x∈(Op.call {callee:=.builtin b,args:=args,argTypes:=ats}).operands,st2.ev x = st.ev x)→evL st2.ev args.toList = some vs:=fun st2 g=>by
      rw [q6q fun x hx=>g x (by simpa [Op.operands,Call.operands] using hx)];exact y
    cases b
    case append=>
      match vs,h with
      | [s,x],h=>
        have o:=qmz (ats:=ats) y;simp only [Ks] at h;split at h
        · rename_i t u z e2;split at h
          · rename_i i j e3 e4;split at h
            · rename_i r
              have p : ∀ st2 : AS,(∀ x∈(Op.call {callee:=.builtin .append,args:=args,argTypes:=ats}).operands,st2.ev x = st.ev x)→opFn T st2 (.call {callee:=.builtin .append,args:=args,argTypes:=ats}) = Yl st2 i s x:=fun st2 g=>by
                simp only [opFn,q st2 g,Ks,z,e2,e3,e4,qp r]
              rcases qkl h with ⟨rfl,d⟩ | ⟨es,l,b,hp1,rfl,rfl,⟨rfl,d⟩ | ⟨n,w,rfl,d⟩⟩
              · refine .calm rfl rfl (fun _ _=>rfl) (fun _ h=>h) fun st2 g f=>?_;rw [o] at f;exact ⟨st2.hp,(p st2 g).trans (d st2 f.2),fun m a=>f.1 m (by rw [o] at a;exact a),fun _ _=>rfl⟩
              · refine .new (fun n=>.hs n es 0 l) b _ (.inr (.inl ⟨_,_,rfl⟩)) rfl rfl (by rw [o];simp) (fun _ _=>rfl) (fun _ h=>h) fun st2 g f=>?_;rw [o] at f;exact ⟨st2.hp,(p st2 g).trans (d st2 f.2),fun m a=>f.1 m (by rw [o] at a;exact a),fun _ _=>rfl,fun m c r=>.inr r⟩
              · have ab : ∀ m,m ∉ (fp st (.call {callee:=.builtin .append,args:=args,argTypes:=ats})).2→n≠m:=fun m a e=>by
                  rw [o] at a;exact a (by rw [← e];simp [w])
                refine .new (fun n=>.hs n es 0 l) b _ (.inr (.inl ⟨_,_,rfl⟩)) rfl rfl (by rw [o];simp) (fun m a=>J5 (ab m a)) (fun m a=>q4c a) fun st2 g f=>?_;rw [o] at f;exact ⟨repl st2.hp n .dead,(p st2 g).trans (d st2 f.2),fun m a=>q4b (f.1 m (by rw [o] at a;exact a)),fun m a=>J5 (ab m a),fun m c r=>qrl r⟩
            · cases h
          · cases h
        · cases h
    case copy=>
      match vs,h with
      | [s,x],h=>
        have o:=qn1 (ats:=ats) y;simp only [Ks] at h;split at h
        · rename_i t u z e2;split at h
          · rename_i i j e3 e4;split at h
            · rename_i r
              have p : ∀ st2 : AS,(∀ x∈(Op.call {callee:=.builtin .copy,args:=args,argTypes:=ats}).operands,st2.ev x = st.ev x)→opFn T st2 (.call {callee:=.builtin .copy,args:=args,argTypes:=ats}) = copyV st2 s x:=fun st2 g=>by
                simp only [opFn,q st2 g,Ks,z,e2,e3,e4,qp r]
              obtain ⟨n,b,w,rfl,d⟩:=qm7 h;refine .calm rfl rfl (fun m a=>?_) (fun m a=>q4c a) fun st2 g f=>?_
              · rw [o,w] at a;exact J5 (by simp at a;omega)
              · rw [o] at f ⊢;refine ⟨repl st2.hp n b,(p st2 g).trans (d st2 (f.1 n (by simp [w])) fun m a=>f.2 m (by simp [a])),fun m a=>q4b (f.1 m a),fun m a=>J5 (by rw [w] at a;simp at a;omega)⟩
            · cases h
          · cases h
        · cases h
    case clear=>
      match vs,h with
      | [x],h=>
        have o:=qn0 (ats:=ats) y;simp only [Ks] at h;split at h
        · rename_i t z;split at h
          · rename_i i e3;split at h
            · rename_i r
              have p : ∀ st2 : AS,(∀ x∈(Op.call {callee:=.builtin .clear,args:=args,argTypes:=ats}).operands,st2.ev x = st.ev x)→opFn T st2 (.call {callee:=.builtin .clear,args:=args,argTypes:=ats}) = J4 st2 i x:=fun st2 g=>by
                simp only [opFn,q st2 g,Ks,z,e3,qp r]
              rcases qlt h with ⟨rfl,d⟩ | ⟨n,b,w,rfl,d⟩
              · refine .calm rfl rfl (fun _ _=>rfl) (fun _ h=>h) fun st2 g f=>?_;rw [o] at f;exact ⟨st2.hp,(p st2 g).trans (d st2),fun m a=>f.1 m (by rw [o] at a;exact a),fun _ _=>rfl⟩
              · refine .calm rfl rfl (fun m a=>?_) (fun m a=>q4c a) fun st2 g f=>?_
                · rw [o,w] at a;exact J5 (by simp at a;omega)
                · rw [o] at f ⊢;refine ⟨repl st2.hp n b,(p st2 g).trans (d st2 (f.1 n (by simp [w]))),fun m a=>q4b (f.1 m a),fun m a=>J5 (by rw [w] at a;simp at a;omega)⟩
            · cases h
          · cases h
        · cases h
    case delete=>
      match vs,h with
      | [m,k],h=>
        have o:=qn2 (ats:=ats) y;simp only [Ks] at h;split at h <;> try simp only [reduceCtorEq] at h
        rename_i t n kd z;split at h <;> try simp only [reduceCtorEq] at h
        rename_i i es e2 e3;split at h <;> try simp only [reduceCtorEq] at h
        rename_i ks e4;split at h <;> try simp only [reduceCtorEq] at h
        rename_i e5
        cases hg : mdel i.eagg ks kd es with
        | none=>rw [hg] at h;simp at h
        | some es'=>
          rw [hg] at h;simp only [Option.map_some,Option.some.injEq,Prod.mk.injEq] at h;obtain ⟨rfl,rfl⟩:=h;refine .calm rfl rfl (fun m a=>?_) (fun m a=>q4c a) fun st2 g f=>?_
          · rw [o] at a;exact J5 (by simp [K1] at a;omega)
          · rw [o] at f ⊢;have e' : st2.blk n = st.blk n:=f.1 n (by simp [K1]);refine ⟨repl st2.hp n (.mp es'),?_,fun m a=>q4b (f.1 m a),fun m a=>J5 (by simp [K1] at a;omega)⟩;simp only [opFn,q st2 g,Ks,z,e2,e',e3,e4,qp e5,hg,Option.map_some];rfl
    case len=>exact qa1 h0 rfl
    case min=>exact qa1 h0 rfl
    case max=>exact qa1 h0 rfl
    all_goals simp [Ks] at h
theorem qhu {op : Op} (h : opFn T st op = some (v,st1)) : Out T st op v st1:=by
  cases op
  case load t p=>exact qpt h
  case store t p x=>exact qpw h
  case call c=>
    obtain ⟨w,args,ats⟩:=c
    cases w with
    | builtin b=>exact qps h
    | value f=>simp [opFn] at h
    | invoke r n=>simp [opFn] at h
  case alloc t=>
    simp only [opFn] at h
    cases a : T t with
    | none=>simp [a] at h
    | some i=>
      simp only [a,Option.map_some,Option.some.injEq,Prod.mk.injEq] at h;obtain ⟨rfl,rfl⟩:=h;exact q72 (mk:=fun n=>.ref n i.size 0 0) (.inl ⟨_,rfl⟩) rfl rfl rfl fun st2 _=>by simp only [opFn,a];rfl
  case box t x=>
    simp only [opFn] at h
    cases a : T t with
    | none=>simp [a] at h
    | some i=>
      cases g : st.ev x with
      | none=>simp [a,g] at h
      | some xv=>
        simp only [a,g] at h;split at h
        · rename_i o;simp only [Option.some.injEq,Prod.mk.injEq] at h;obtain ⟨rfl,rfl⟩:=h;exact q72 (mk:=fun n=>.ref n i.size 0 0) (.inl ⟨_,rfl⟩) rfl rfl rfl fun st2 j=>by simp only [opFn,a,j x (by simp [Op.operands]),g,qp o]
        · cases h
  case buildSlice t len ps=>
    simp only [opFn] at h
    cases a : T t with
    | none=>simp [a] at h
    | some i=>
      cases g : Zm st.ev ps.toList with
      | none=>simp [a,g] at h
      | some vs=>
        simp only [a,g] at h;split at h
        · rename_i l y;split at h
          · rename_i o
            cases u : q2n (List.replicate len (i.ezero.map .d)) l with
            | none=>simp [u] at h
            | some xs=>
              simp only [u,Option.map_some,Option.some.injEq,Prod.mk.injEq] at h;obtain ⟨rfl,rfl⟩:=h
              exact q72 (mk:=fun n=>.hs n i.esize 0 len) (.inr (.inl ⟨_,_,rfl⟩)) rfl rfl rfl fun st2 j=>by
                have e:=qbp (ev:=st.ev) (ev':=st2.ev) (l:=ps.toList) (fun x g=>j x (by simpa [Op.operands] using g));simp only [opFn,a,e,g,y,qp o,u,Option.map_some]
          · cases h
        · cases h
  case makeSlice t l c=>
    have z:=h;simp only [opFn] at h;split at h
    · rename_i i k n k' m s e2 e3;split at h
      · rename_i o;simp only [Option.some.injEq,Prod.mk.injEq] at h;obtain ⟨rfl,rfl⟩:=h
        exact q72 (mk:=fun q=>.hs q i.esize 0 n.toNat) (.inr (.inl ⟨_,_,rfl⟩)) rfl rfl rfl fun st2 j=>by
          simp only [opFn,s,j l (by simp [Op.operands]),j c (by simp [Op.operands]),e2,e3,qp o]
      · cases h
    · cases h
  case lookup=>exact qpu h
  case mapUpdate=>exact qpv h
  case makeMap t r=>
    have z:=h;simp only [opFn] at h;split at h <;> try simp only [reduceCtorEq] at h
    rename_i i s;split at h <;> try simp only [reduceCtorEq] at h
    rename_i hk;simp only [Option.some.injEq,Prod.mk.injEq] at h;obtain ⟨rfl,rfl⟩:=h;exact q72 (mk:=fun n=>.mp n) (.inr (.inr rfl)) rfl rfl rfl fun st2 _=>by simp only [opFn,s,qp hk]
  all_goals first | exact qa1 h rfl | (simp [opFn] at h;done)
end
end Go.Am
