/- Am17 Am18 Am19 Am20 Am21 Am22 Am22b -/
import Derived.Test.YtiejlbckgihckaaGreatK3
import Derived.RangeFuncRecord
import Derived.RangeFuncNested
import Derived.OrdersIn
import Derived.RangeFuncCalls
namespace Go.Am
open Go
variable {P : Program} {T : Tab}
section
variable {w : World} {Z : Nat→Prop} {inj : Inj} {st : AS} {a : Act} {Ds : List Nat}
theorem qrr {c : Bool} {v b : V} {r : List V} {u : V} (h : minI c v (b::r) = some u) : ∃ k n f m,v = .d (.int k n)∧b = .d (.int f m)∧minI c (.d (.int k (bif c then (if m > n then m else n) else (if m < n then m else n)))) r = some u:=by
  unfold minI at h;split at h
  · rename_i a;cases a
  · rename_i a;cases a;exact ⟨_,_,_,_,rfl,rfl,h⟩
  · simp at h
theorem qex {f : Bool} {nx : Nat} : ∀ (r : List V) (v u : V) (x : Value) (xs : List Value),minI f v r = some u→RelV w Z inj nx v x→r.length = xs.length→(∀ (i : Nat) (d : V) (c : Value),r[i]? = some d→xs[i]? = some c→RelV w Z inj nx d c)→
    ∃ y,(xs.foldlM (if f then Builtin.max2 else Builtin.min2) x).run P w = .ok y w∧RelV w Z inj nx u y
  | [],v,u,x,xs,h,hv,hl,_=>by
    simp [minI] at h;subst h
    have : xs = []:=by cases xs <;> simp_all
    subst this
    exact ⟨x,qe,hv⟩
  | b::r,v,u,x,xs,h,hv,hl,hr=>by
    match xs,hl,hr with
    | c::xs,hl,hr=>
      have hb:=hr 0 b c rfl rfl
      obtain ⟨k,n,l,m,rfl,rfl,h⟩:=qrr h
      cases hv with | d hv=>
      cases hv
      cases hb with | d hb=>
      cases hb
      obtain ⟨y,a,g⟩:=qex r _ u (.int k (bif f then (if m > n then m else n) else (if m < n then m else n))) xs h (.d (.int _ _)) (by simpa using hl) (fun i d c hd j=>hr (i + 1) d c (by simpa using hd) (by simpa using j))
      refine ⟨y,?_,g⟩
      cases f
      · simp only [Bool.false_eq_true,if_false,List.foldlM_cons,Builtin.min2,Sem.run_bind,Sem.run_pure,Result.andThen_ok,Q1] at a ⊢;exact a
      · simp only [if_true,List.foldlM_cons,Builtin.max2,Sem.run_bind,Sem.run_pure,Result.andThen_ok,Q2] at a ⊢;exact a
theorem qen {nx : Nat} {x y : V} {xs : Array Value} (h : LRel w Z inj nx [x,y] xs) : ∃ a b,xs = #[a,b]∧RelV w Z inj nx x a∧RelV w Z inj nx y b:=by
  obtain ⟨d,c⟩:=h;obtain ⟨l⟩:=xs
  match l,d with
  | [a,b],_=>exact ⟨a,b,rfl,c 0 _ _ rfl rfl,c 1 _ _ rfl rfl⟩
theorem qem {nx : Nat} {x : V} {xs : Array Value} (h : LRel w Z inj nx [x] xs) : ∃ a,xs = #[a]∧RelV w Z inj nx x a:=by
  obtain ⟨b,c⟩:=h;obtain ⟨l⟩:=xs
  match l,b with
  | [a],_=>exact ⟨a,rfl,c 0 _ _ rfl rfl⟩
theorem qnz {b : Builtin} {ts : Array TypeId} {ty : TypeId} {cs : Array Bool} {vs : List V} {xs : Array Value} {v : V} {st1 : AS} (hT : Z6 P T) (h : RelS w Z inj st a Ds) (o : LRel w Z inj st.nx vs xs) (hb : Y9 T st b ts vs = some (v,st1)) :
    Kl st st1 v w Z inj ((builtin b ts ty cs xs).run P w):=by
  unfold Y9 at hb;split at hb
  ·
    rename_i x;obtain ⟨s,rfl,g⟩:=qem o;split at hb <;> try simp at hb
    rename_i t f;split at hb <;> try simp at hb
    rename_i i p;obtain ⟨ba,d,z,k⟩:=Ys (hT _ _ p);have q:=k.kind;unfold Zf at q
    have fin : ∀ n : Int,(Builtin.len_ ts ty #[s]).run P w = .ok (.int .i64 n) w→Kl st st (.d (.int .i64 n)) w Z inj ((builtin .len ts ty cs #[s]).run P w):=fun n hr=>
      .quiet h (by simp [builtin,hr]) (.d (.int _ _))
    split at hb <;> try simp at hb
    · rename_i hk;simp only [hk] at q;obtain ⟨e,ie,de,rfl,_⟩:=q;obtain ⟨rfl,rfl⟩:=hb;refine fin _ ?_;simp only [Builtin.len_,f];simp [run_underlying k.und,goInt]
    · rename_i hk;simp only [hk] at q;obtain ⟨e,ie,de,ze,rfl,_⟩:=q
      have m : ∀ ad n cap,s = .slice ad n cap→(Builtin.len_ ts ty #[s]).run P w = .ok (.int .i64 n) w:=by
        rintro ad n cap rfl;simp only [Builtin.len_,f];simp [run_underlying k.und,goInt]
      split at hb <;> try simp at hb
      · obtain ⟨rfl,rfl⟩:=hb
        cases g with | d g=>
        cases g;exact fin 0 (m _ _ _ rfl)
      · obtain ⟨rfl,rfl⟩:=hb
        cases g with | d g=>
        cases g with
        | slnil=>exact fin _ (m _ _ _ rfl)
        | slemp=>exact fin _ (m _ _ _ rfl)
        | sl=>exact fin _ (m _ _ _ rfl)
      · obtain ⟨rfl,rfl⟩:=hb
        cases g with
        | hsnil=>exact fin _ (m _ _ _ rfl)
        | hs=>exact fin _ (m _ _ _ rfl)
    · rename_i hk;simp only [hk] at q;obtain ⟨rfl,_⟩:=q;split at hb <;> try simp at hb
      obtain ⟨rfl,rfl⟩:=hb
      cases g with | d g=>
      cases g;refine fin _ ?_;simp only [Builtin.len_,f];simp [run_underlying k.und,goInt]
  ·
    obtain ⟨sv,s,rfl,hs,g⟩:=qen o;split at hb <;> try simp at hb
    rename_i t u f an;split at hb <;> try simp at hb
    rename_i i j p ae;obtain ⟨⟨h1,h2,h3⟩,hb⟩:=hb
    have key : (Builtin.append_ ts ty #[sv,s]).run P w = (Builtin.append_ #[t,u] ty #[sv,s]).run P w:=by
      unfold Builtin.append_;simp only [f,an];rfl
    obtain ⟨x,w',inj',hr,r1,r2,r3,r4,r5⟩:=qsm (ty:=ty) h (hT _ _ p) (hT _ _ ae) h1 h2 h3 hs g hb;exact ⟨x,w',inj',.inl (by simp [builtin,key,hr]),r1,r2,r3,r4,r5⟩
  ·
    obtain ⟨sv,s,rfl,hs,g⟩:=qen o;split at hb <;> try simp at hb
    rename_i t u f an;split at hb <;> try simp at hb
    rename_i i j p ae;obtain ⟨⟨h1,h2,h3,h4⟩,hb⟩:=hb
    have key : (Builtin.copy_ ts ty #[sv,s]).run P w = (Builtin.copy_ #[t,u] ty #[sv,s]).run P w:=by
      unfold Builtin.copy_;simp only [f];rfl
    obtain ⟨x,w',inj',hr,r1,r2,r3,r4,r5⟩:=qsu (ty:=ty) h (hT _ _ p) (hT _ _ ae) h1 h2 h3 h4 hs g hb;exact ⟨x,w',inj',.inl (by simp [builtin,key,hr]),r1,r2,r3,r4,r5⟩
  ·
    rename_i x;obtain ⟨s,rfl,g⟩:=qem o;split at hb <;> try simp at hb
    rename_i t f;split at hb <;> try simp at hb
    rename_i i p;obtain ⟨⟨h1,h2⟩,hb⟩:=hb
    have key : (Builtin.clear_ ts ty #[s]).run P w = (Builtin.clear_ #[t] ty #[s]).run P w:=by
      unfold Builtin.clear_;simp only [f];rfl
    obtain ⟨x,w',inj',hr,r1,r2,r3,r4,r5⟩:=qss (ty:=ty) h (hT _ _ p) h1 h2 g hb;exact ⟨x,w',inj',.inl (by simp [builtin,key,hr]),r1,r2,r3,r4,r5⟩
  ·
    rename_i m0 k0;obtain ⟨mv,kv,rfl,hs,g⟩:=qen o;split at hb <;> try simp at hb
    rename_i t n kd f;split at hb <;> try simp at hb
    rename_i i es p ax;split at hb <;> try simp at hb
    rename_i ks av;obtain ⟨ar,be,hd,rfl,rfl⟩:=hb
    cases g with | d g=>
    exact qsv h (hT _ _ p) f av hs g ax ar hd
  ·
    rename_i v0 r
    cases hm : minI false v0 r with
    | none=>simp [hm] at hb
    | some u=>
      simp [hm] at hb;obtain ⟨rfl,rfl⟩:=hb;obtain ⟨l⟩:=xs
      match l,o with
      | [],o=>simp [LRel] at o
      | x::xs,o=>
        obtain ⟨y,h1,h2⟩:=qex (P:=P) r v0 u x xs hm (o.2 0 _ _ rfl rfl) (by simpa using o.1) (fun i d c hd hc=>o.2 (i + 1) d c (by simpa using hd) (by simpa using hc));refine .quiet h ?_ h2;simp only [Bool.false_eq_true,if_false] at h1;simp [builtin,Builtin.min_,h1]
  · rename_i v0 r
    cases hm : minI true v0 r with
    | none=>simp [hm] at hb
    | some u=>
      simp [hm] at hb;obtain ⟨rfl,rfl⟩:=hb;obtain ⟨l⟩:=xs
      match l,o with
      | [],o=>simp [LRel] at o
      | x::xs,o=>
        obtain ⟨y,h1,h2⟩:=qex (P:=P) r v0 u x xs hm (o.2 0 _ _ rfl rfl) (by simpa using o.1) (fun i d c hd hc=>o.2 (i + 1) d c (by simpa using hd) (by simpa using hc));refine .quiet h ?_ h2;simp only [if_true] at h1;simp [builtin,Builtin.max_,h1]
  · simp at hb
theorem qkj {o : Oper} {v : V} {st1 : AS} (hT : Z6 P T) (h : RelS w Z inj st a Ds) (g : opFn T st o.op = some (v,st1)) : Kl st st1 v w Z inj ((execOp a.eval o).run P w):=by
  obtain ⟨dst,op,type,pos,after,guard⟩:=o;simp only at g;cases op <;> simp only [opFn,reduceCtorEq] at g
  case move x=>
    cases hx : st.ev x with
    | none=>simp [hx] at g
    | some u=>simp [hx] at g;obtain ⟨rfl,rfl⟩:=g;exact qkh h hx rfl
  case assign x=>
    cases hx : st.ev x with
    | none=>simp [hx] at g
    | some u=>simp [hx] at g;obtain ⟨rfl,rfl⟩:=g;exact qkh h hx rfl
  case pick c x y=>
    split at g <;> try simp at g
    · rename_i hc;obtain ⟨u,hx,rfl,rfl⟩:=g;have ae:=Kd h hc;generalize aq : a.eval c = cv at ae
      cases ae with | d ae=>
      cases ae;exact .quiet h (by simp [execOp,aq,asBool]) (Kd h hx)
    · rename_i hc;obtain ⟨u,hx,rfl,rfl⟩:=g;have ae:=Kd h hc;generalize aq : a.eval c = cv at ae
      cases ae with | d ae=>
      cases ae;exact .quiet h (by simp [execOp,aq,asBool]) (Kd h hx)
  case alloc t=>
    cases ht : T t with
    | none=>simp [ht] at g
    | some i=>simp [ht] at g;obtain ⟨rfl,rfl⟩:=g;exact qsl h (hT _ _ ht)
  case box t x=>
    split at g <;> try simp at g
    rename_i i u ht hx;obtain ⟨⟨h1,h2⟩,rfl,rfl⟩:=g;exact qsp h (hT _ _ ht) hx h1 (by simpa using h2)
  case build t ps=>
    split at g <;> try simp at g
    rename_i i vs ht hv;obtain ⟨h1,g⟩:=g;split at g <;> try simp at g
    rename_i l hl;obtain ⟨cs,hc,rfl,rfl⟩:=g;exact qsq h (hT _ _ ht) hv h1 hl hc
  case buildSlice t len ps=>
    split at g <;> try simp at g
    rename_i i vs ht hv;split at g <;> try simp at g
    rename_i l hl;obtain ⟨⟨h1,h2⟩,xs,hc,rfl,rfl⟩:=g;exact qsr h (hT _ _ ht) hv hl h1 h2 hc
  case load t p=>
    split at g <;> try simp at g
    rename_i i u ht hp;obtain ⟨x,hx,rfl,rfl⟩:=g;exact qt1 h (hT _ _ ht) hp hx
  case store t p x=>
    split at g <;> try simp at g
    rename_i i u y ht hp hx;obtain ⟨hs,rfl⟩:=g;exact qt9 h (hT _ _ ht) hp hx hs
  case binOp op t x y u=>
    split at g
    · rename_i p q hx hy;split at g <;> try simp at g
      rename_i i ht;split at g <;> try simp at g
      rename_i ks ai;split at g <;> simp at g
      · rename_i r hc;obtain ⟨rfl,rfl⟩:=g;exact qkf h (hT _ _ ht) hx hy ai hc (.inl ⟨rfl,rfl⟩)
      · rename_i r hc;obtain ⟨rfl,rfl⟩:=g;exact qkf h (hT _ _ ht) hx hy ai hc (.inr ⟨rfl,rfl⟩)
    · rename_i hx hy;simp at g;obtain ⟨r,hr,rfl,rfl⟩:=g;exact qso h hx hy hr
    · rename_i hx hy;split at g <;> try simp at g
      rename_i i ht;obtain ⟨r,hr,rfl,rfl⟩:=g;exact qsn h (hT _ _ ht) hx hy hr
    · simp at g
  case unOp op t x=>
    split at g <;> try simp at g
    rename_i p hx;obtain ⟨r,hr,rfl,rfl⟩:=g;exact qta h hx hr
  case convert src dst x=>
    split at g <;> try simp at g
    rename_i i j k n hi hj hx;split at g <;> simp at g
    rename_i k0 k1 aw ay;obtain ⟨rfl,rfl⟩:=g;exact qst h (hT _ _ hi) (hT _ _ hj) aw ay hx
  case makeFunc fn first caps=>
    cases fn <;> simp only [reduceCtorEq] at g
    rename_i f;split at g
    · rename_i hf;simp at g;obtain ⟨vs,hv,rfl,rfl⟩:=g;exact qt4 h hf hv
    · split at g
      · rename_i hc;simp only [Y3,Option.bind_eq_some_iff,Prod.mk.injEq] at g;obtain ⟨ds,⟨vs,hv,hd⟩,rfl,rfl⟩:=g;exact qt3 h hc hv hd
      · simp at g
  case makeSlice t l c=>
    split at g <;> try simp at g
    rename_i i k1 n k2 m ht hl hc;obtain ⟨⟨h1,h2,h3,h4⟩,rfl,rfl⟩:=g;exact qt6 h (hT _ _ ht) h1 hl hc h2 h3 h4
  case slice t x lo hi mx=>
    split at g <;> try simp at g
    rename_i i u ht hx;obtain ⟨⟨h1,h2⟩,g⟩:=g;split at g <;> try simp at g
    rename_i n hn;split at g <;> try simp at g
    rename_i p q hp hq;obtain ⟨r,hr,rfl,rfl⟩:=g;subst h2;exact qt8 h (hT _ _ ht) h1 hx hn hp hq hr
  case fieldAddr s p f=>
    split at g <;> try simp at g
    rename_i i u ht hp;split at g <;> try simp at g
    rename_i off size ag hk hf;obtain ⟨r,hr,rfl,rfl⟩:=g;exact qsx h (hT _ _ ht) hp hk hf hr
  case field s x f=>
    split at g <;> try simp at g
    rename_i i u ht hx;split at g <;> try simp at g
    rename_i off size ag cs hk hf ha;split at g <;> try simp at g
    rename_i r hr;obtain ⟨y,hy,rfl,rfl⟩:=g;exact qsw h (hT _ _ ht) hx hk hf ha hr hy
  case indexAddr t x ix=>
    split at g <;> try simp at g
    rename_i i u k n ht hx hn;obtain ⟨y,hy,rfl,rfl⟩:=g;exact qsz h (hT _ _ ht) hx hn hy
  case index t x ix=>
    split at g <;> try simp at g
    rename_i i u k n ht hx hn;split at g <;> try simp only [reduceCtorEq] at g
    · rename_i cs hk ha;split at g <;> try simp at g
      rename_i h0;split at g <;> try simp at g
      rename_i r hr;obtain ⟨y,hy,rfl,rfl⟩:=g;exact qsy h (hT _ _ ht) hx hn hk ha h0 hr hy
    · rename_i hk;split at g <;> try simp only [reduceCtorEq] at g
      rename_i s;rw [Y3] at g;obtain ⟨b,hb,e⟩:=g;cases e;exact qt0 h (hT _ _ ht) hx hn hk hb
  case extract x k=>
    split at g <;> try simp at g
    · rename_i vs hx;obtain ⟨y,hy,rfl,rfl⟩:=g;exact qkg h (.inl ⟨vs,y,hx,hy,rfl⟩)
    · rename_i vs hx;obtain ⟨y,hy,rfl,rfl⟩:=g;exact qkg h (.inr ⟨vs,hx,hy⟩)
  case nilCheck x=>
    have key : ∀ u,st.ev x = some u→(match a.eval x with | .pointer none | .nilIface | .nilFunc | .func (.method _) _ _=>False | _=>True)→Kl st st u w Z inj ((execOp a.eval {dst:=dst,op:=.nilCheck x,type:=type,pos:=pos,after:=after,guard:=guard}).run P w):=by
      intro u hx bh;have hr:=Kd h hx;refine .quiet (x:=a.eval x) h ?_ hr;simp only [execOp];split <;> simp_all
    split at g <;> simp at g
    all_goals
      rename_i hx
      obtain ⟨rfl,rfl⟩:=g
      refine key _ hx ?_
      have hr:=Kd h hx
      generalize a.eval x = xv at hr ⊢
      first
        | (cases hr with | d hr=>cases hr <;> trivial)
        | (cases hr <;> trivial)
  case makeMap t r=>
    split at g <;> try simp at g
    obtain ⟨hk,rfl,rfl⟩:=g;exact qt5 h
  case lookup t x k ok=>
    split at g <;> try simp at g
    rename_i i n kd ht hx hk;split at g <;> try simp only [reduceCtorEq] at g
    rename_i ks es z ai hb hz;split at g <;> try simp only [reduceCtorEq] at g
    rename_i al
    cases hg : mget i.eagg ks z kd es with
    | none=>rw [hg] at g;simp at g
    | some e=>
      rw [hg] at g;simp only [Option.map_some,Option.some.injEq,Prod.mk.injEq] at g;obtain ⟨rfl,rfl⟩:=g;exact qt2 h (hT _ _ ht) ai hx hk hb hz al hg
  case mapUpdate t m k v=>
    split at g <;> try simp at g
    rename_i i n kd vd ht hm hk hv;split at g <;> try simp at g
    rename_i ks es ai hb;obtain ⟨⟨al,hc⟩,bf,hg,rfl,rfl⟩:=g;exact qt7 h (hT _ _ ht) ai hm hk hv hb al hc hg
  case call c=>
    obtain ⟨ax,args,argTypes⟩:=c;cases ax <;> simp only [reduceCtorEq] at g
    rename_i b;split at g <;> try simp at g
    rename_i vs hv;have hl:=q3e h hv;have e2 : (args.toList.map a.eval).toArray = args.map a.eval:=by apply Array.ext';simp
    rw [e2] at hl;have:=qnz (ty:=type) (cs:=args.map fun | .const _=>true | _=>false) hT h hl g;simp only [execOp,resolve,Sem.run_bind,Sem.run_pure,Result.andThen_ok,invoke];exact this
end
end Go.Am
namespace Go.Am
open Go
variable {P : Program} {T : Tab}
theorem RelD.le {w : World} {Z : Nat→Prop} {x y : DV} {v : Value} (h : RelD w Z x v) (n : DLe x y) : RelD w Z y v:=by
  induction n generalizing v with
  | refl=>exact h
  | nil es=>cases h;exact .slnil es
  | tup hlen _ ih=>
    cases h with | @tup _ cs h1 h2=>
    refine .tup q0 fun i d c hd l=>?_;obtain ⟨x,f⟩:=Yk hlen.symm hd;exact ih i x d f hd (h2 i x c f l)
  | agg hlen _ ih=>
    cases h with | @agg _ cs h1 h2=>
    refine .agg q0 fun i d c hd l=>?_;obtain ⟨x,f⟩:=Yk hlen.symm hd;exact ih i x d f hd (h2 i x c f l)
  | @sl es xs ys hlen hrow hcell ih=>
    have k : xs = []→ys = []:=fun e=>List.length_eq_zero_iff.1 (by rw [← hlen,e];rfl)
    have row : ∀ (i : Nat) (y : List DV),ys[i]? = some y→∃ x,xs[i]? = some x∧x.length = y.length:=fun i y g=>by
      obtain ⟨x,f⟩:=Yk hlen.symm g;exact ⟨x,f,hrow i x y f g⟩
    have cell : ∀ (i : Nat) (y : List DV) (j : Nat) (d : DV),ys[i]? = some y→y[j]? = some d→∃ x c,xs[i]? = some x∧x[j]? = some c∧DLe c d:=fun i y j d g hd=>by
      obtain ⟨x,f,n⟩:=row i y g;obtain ⟨c,l⟩:=Yk n.symm hd;exact ⟨x,c,f,l,hcell i x y j c d f g l hd⟩
    cases h with
    | slnil=>rw [k rfl];exact .slnil es
    | slemp _ a=>rw [k rfl];exact .slemp es a
    | @sl _ _ b o cap h1 h2 h3 h4 h5=>
      rw [hlen];refine .sl q0 (fun t=>h2 fun e=>t (k e)) (fun i y g=>?_) (fun i y j d g hd=>?_) fun i y j d c g hd l=>?_
      · obtain ⟨x,f,n⟩:=row i y g;rw [← n];exact h3 i x f
      · obtain ⟨x,c,f,l,p⟩:=cell i y j d g hd;obtain ⟨q,s⟩:=h4 i x j c f l;refine ⟨?_,s⟩
        cases p with
        | refl=>exact q
        | nil=>rfl
        | tup=>exact absurd q (by simp [Yl])
        | agg=>exact absurd q (by simp [Yl])
        | sl=>rfl
      · obtain ⟨x,r,f,m,p⟩:=cell i y j d g hd;exact ih i x y j r d f g m hd (h5 i x j r c f m l)
section
variable {w : World} {Z : Nat→Prop} {inj : Inj} {st st' : AS} {a : Act} {Ds : List Nat} {base : Nat} {ρ : Nat→Nat} {fz ph : List Nat}
def wkZ (Z : Nat→Prop) (inj : Inj) (st : AS) (fz : List Nat) (b : Nat) : Prop:=Z b∨∃ n∈fz,∃ es xs o,find st.hp n = some (.dat es xs)∧inj n = some (b,o)
def wkI (inj : Inj) (ρ : Nat→Nat) (ph : List Nat) : Inj:=fun n=>if n∈ph then none else inj (ρ n)
theorem qcp (h : RelH w Z inj st.hp st.nx) {nx' : Nat} {v v' : V} (hv : Wv st ρ fz ph nx' v v') : ∀ {x : Value},RelV w Z inj st.nx v x→RelV w (wkZ Z inj st fz) (wkI inj ρ ph) nx' v' x:=by
  have u : ∀ b,Z b→wkZ Z inj st fz b:=fun b hb=>.inl hb
  induction hv with
  | dead=>exact fun _=>.dead _
  | d hle=>intro x a;cases a with | d a=>exact .d ((a.le hle).mono (fun _ _=>rfl) u)
  | nil hm hlt=>intro x a;cases a with | d a=>cases a;exact .hsnil hlt
  | dref cs j=>intro x a;cases a with | dref h1 h2 h3=>exact .dref (u _ h1) h2 fun k d c hd g=>(h3 k d c hd g).mono (fun _ _=>rfl) u
  | ref hr hp hlt=>intro x a;cases a with | ref h1 h2=>exact .ref hlt (by simp only [wkI,hp,hr,if_false];exact h2)
  | hs hr hp hlt=>
    intro x a
    cases a with
    | hsnil h1=>exact .hsnil hlt
    | hs h1 h2 h3 h4=>exact .hs hlt h2 h3 fun g=>by obtain ⟨b,o,t,e2,e3⟩:=h4 g;exact ⟨b,o,by simp only [wkI,hp,hr,if_false];exact t,e2,e3⟩
  | yld hr hp hlt=>intro x a;cases a with | yld h1 h2=>exact .yld hlt (by simp only [wkI,hp,hr,if_false];exact h2)
  | mp hr hp hlt=>intro x a;cases a with | mp h1 h2=>exact .mp hlt (by simp only [wkI,hp,hr,if_false];exact h2)
  | fn hl _ ih=>
    intro x a
    cases a with | @fn _ _ cs h1 h2=>
    refine .fn q0 fun i d c hd g=>?_;obtain ⟨y,m⟩:=Yk hl.symm hd;exact ih i y d m hd (h2 i y c m g)
  | agg hl _ ih=>
    intro x a
    cases a with | @agg _ cs h1 h2=>
    refine .agg q0 fun i d c hd g=>?_;obtain ⟨y,m⟩:=Yk hl.symm hd;exact ih i y d m hd (h2 i y c m g)
  | tup hl _ ih=>
    intro x a
    cases a with | @tup _ cs h1 h2=>
    refine .tup q0 fun i d c hd g=>?_;obtain ⟨y,m⟩:=Yk hl.symm hd;exact ih i y d m hd (h2 i y c m g)
  | dtup hl _ ih=>
    intro x a
    cases a with | d a=>cases a with | @tup _ cs h1 h2=>
    refine .tup q0 fun i d c hd g=>?_;obtain ⟨y,m⟩:=Yk hl.symm hd;exact ih i y d m hd (.d (h2 i y c m g))
  | dagg hl _ ih=>
    intro x a
    cases a with | d a=>cases a with | @agg _ cs h1 h2=>
    refine .agg q0 fun i d c hd g=>?_;obtain ⟨y,m⟩:=Yk hl.symm hd;exact ih i y d m hd (.d (h2 i y c m g))
  | @frz n es o l xs ys k hb hf hle hys hk=>
    intro x a;subst hk hys;have r : ((xs.drop o).take l).length = l:=by simp;omega
    have hB:=(h.blk n _ hb).2;obtain ⟨b1,b2,z⟩:=hB
    cases a with
    | hsnil h1=>
      have : (xs.drop o).take 0 = []:=by simp
      rw [this];exact .d (.slnil _)
    | @hs _ _ _ _ cap ad h1 h2 h3 h4=>
      obtain ⟨bb,oo,sp⟩:=ad;simp only at h3;subst h3;by_cases h0 : l = 0
      · subst h0;have : (xs.drop o).take 0 = []:=by simp
        rw [this];exact .d (RelD.sl (es:=k) (xs:=[]) qe qe qe qe qe)
      · obtain ⟨b,s,t,e2,e3⟩:=h4 q0;rw [e2];rcases z with ⟨_,p⟩ | ⟨b',ae,arr,ty,p,b5,b6⟩
        · rw [t] at p;cases p
        · rw [t] at p;cases p
          have q : ∀ (i : Nat) (x : List DV),((xs.drop o).take l)[i]? = some x→xs[o + i]? = some x:=by
            intro i x a;rw [List.getElem?_take] at a;split at a
            · rwa [List.getElem?_drop] at a
            · simp at a
          have e9 : ∀ i j,s + o * k + (i * k + j) = s + ((o + i) * k + j):=by intro i j;rw [Nat.add_mul];omega
          have f : ∀ (i : Nat) (x : List DV) (j : Nat) (d : DV),((xs.drop o).take l)[i]? = some x→x[j]? = some d→Yl d = true∧∃ c,w.cell? ⟨b,s + o * k + (i * k + j),none⟩ = some c∧RelD w Z d c:=by
            intro i x j d a hd;obtain ⟨c1,c,c2,c3⟩:=b6 _ x j d (q i x a) hd;exact ⟨c1,c,by rw [e9];simp only [World.cell?,b5];exact c2,c3⟩
          have:=RelD.sl (w:=w) (Z:=wkZ Z inj st fz) (es:=k) (xs:=(xs.drop o).take l) (b:=b) (o:=s + o * k) (cap:=cap) (by rw [r];exact h2) (fun _=>.inr ⟨n,hf,_,_,s,hb,t⟩) (fun i x a=>b2 _ _ (q i x a))
            (fun i x j d a hd=>by obtain ⟨c1,c,c2,_⟩:=f i x j d a hd;exact ⟨c1,c,c2⟩)
            (fun i x j d c a hd g=>by obtain ⟨_,c',c2,c3⟩:=f i x j d a hd;rw [c2] at g;cases g;exact c3.mono (fun _ _=>rfl) u)
          rw [r] at this;exact .d this
  | @frzB n es cs k hb hf hk=>
    intro x a;subst hk;obtain ⟨b1,b2,z⟩:=(h.blk n _ hb).2
    cases a with | @ref _ _ _ _ b o h1 h2=>
    rcases z with ⟨p,_⟩ | ⟨b',ae,arr,ty,p,b5,b6⟩
    · simp at p
    · rw [h2] at p;cases p
      have f : ∀ (j : Nat) (d : DV),cs[j]? = some d→∃ c,w.cell? ⟨b,o + (0 * k + 0) + j,none⟩ = some c∧RelD w Z d c:=by
        intro j d hd;obtain ⟨c1,c,c2,c3⟩:=b6 0 cs j d rfl hd;exact ⟨c,by simp only [World.cell?,b5];rw [← c2];simp,c3⟩
      exact .d (.box (.inr ⟨n,hf,_,_,o,hb,h2⟩) (fun j d hd=>by obtain ⟨c,c2,_⟩:=f j d hd;exact ⟨c,c2⟩)
        (fun j d c hd g=>by obtain ⟨c',c2,c3⟩:=f j d hd;rw [c2] at g;cases g;exact c3.mono (fun _ _=>rfl) u))
theorem q11i (h : RelH w Z inj st.hp st.nx) {nx' n : Nat} {b b' : Blk} (hp : n ∉ ph) (hw : Wb st ρ fz ph nx' b b') (hb : RelB w Z inj st.nx (ρ n) b) : RelB w (wkZ Z inj st fz) (wkI inj ρ ph) nx' n b':=by
  have hz : ∀ b,Z b→wkZ Z inj st fz b:=fun b hb=>.inl hb;have hi : wkI inj ρ ph n = inj (ρ n):=by simp [wkI,hp]
  cases hw with
  | dead=>trivial
  | dat es xs=>
    obtain ⟨p,m,a⟩:=hb;refine ⟨p,m,?_⟩;rcases a with ⟨a,g⟩ | ⟨b,o,arr,ty,a,g,q⟩
    · exact .inl ⟨a,hi.trans g⟩
    · exact .inr ⟨b,o,arr,ty,hi.trans a,g,fun i x j d f hd=>by obtain ⟨c1,c,c2,c3⟩:=q i x j d f hd;exact ⟨c1,c,c2,c3.mono (fun _ _=>rfl) hz⟩⟩
  | mp es=>
    obtain ⟨b,r,cl,p,m,a,g⟩:=hb;exact ⟨b,r,cl,hi.trans p,m,a,fun i e x he f=>by obtain ⟨g1,g2,g3⟩:=g i e x he f;exact ⟨g1.mono (fun _ _=>rfl) hz,g2.mono (fun _ _=>rfl) hz,g3⟩⟩
  | cel hl hc=>
    obtain ⟨p,m,a⟩:=hb;refine ⟨p,?_,?_⟩
    · intro i y k;obtain ⟨x,f⟩:=Yk hl.symm k;rw [← (hc i x y f k).1];exact m i x f
    · rcases a with ⟨a,g⟩ | ⟨b,o,arr,ty,a,g,q⟩
      · exact .inl ⟨List.eq_nil_of_length_eq_zero (by rw [← hl,a];rfl),hi.trans g⟩
      · refine .inr ⟨b,o,arr,ty,hi.trans a,g,fun i y j d k hd=>?_⟩;obtain ⟨x,f⟩:=Yk hl.symm k;obtain ⟨z,s⟩:=hc i x y f k;obtain ⟨c0,l⟩:=Yk z.symm hd;obtain ⟨m1,u⟩:=s j c0 d l hd;obtain ⟨c1,c,c2,c3⟩:=q i x j c0 f l;exact ⟨u,c,c2,qcp h m1 c3⟩
  | datcel hl hc=>
    obtain ⟨p,m,a⟩:=hb;refine ⟨p,?_,?_⟩
    · intro i y k;obtain ⟨x,f⟩:=Yk hl.symm k;rw [← (hc i x y f k).1];exact m i x f
    · rcases a with ⟨a,g⟩ | ⟨b,o,arr,ty,a,g,q⟩
      · exact .inl ⟨List.eq_nil_of_length_eq_zero (by rw [← hl,a];rfl),hi.trans g⟩
      · refine .inr ⟨b,o,arr,ty,hi.trans a,g,fun i y j d k hd=>?_⟩;obtain ⟨x,f⟩:=Yk hl.symm k;obtain ⟨z,s⟩:=hc i x y f k;obtain ⟨c0,l⟩:=Yk z.symm hd;obtain ⟨m1,u⟩:=s j c0 d l hd;obtain ⟨c1,c,c2,c3⟩:=q i x j c0 f l;exact ⟨u,c,c2,qcp h m1 (.d c3)⟩
  | loop hs=>
    obtain ⟨b,tmps,D,fn,p,m,a,g⟩:=hb;refine ⟨b,tmps,D,fn,hi.trans p,m,a,fun t v' ht=>?_⟩;obtain ⟨v,hv,hw⟩:=hs t v' ht;obtain ⟨x,f,hr⟩:=g t v hv;exact ⟨x,f,qcp h hw hr⟩
theorem qn0 {nx' : Nat} {b a : Blk} (c : Wb st ρ fz ph nx' b a) (d : live a = true) : live b = true:=by
  cases c <;> first | rfl | simp [live] at d
theorem q1w (h : RelS w Z inj st a Ds) (y : Wk base ρ fz ph st st') : RelS w (wkZ Z inj st fz) (wkI inj ρ ph) st' a Ds∧Ext w Z inj st.hp w (wkZ Z inj st fz) (wkI inj ρ ph) st'.hp base:=by
  have back : ∀ n s,st'.blk n = some s→live s = true→∀ p,wkI inj ρ ph n = some p→n ∉ ph∧∃ b,st.blk (ρ n) = some b∧live b = true∧inj (ρ n) = some p:=by
    intro n s hb hl p hp;have g : n ∉ ph:=by intro hc;simp [wkI,hc] at hp
    obtain ⟨_,k⟩:=y.blocks n s hb;rcases k with ⟨k,_⟩ | ⟨_,b,h3,h4⟩
    · exact absurd k g
    · exact ⟨g,b,h3,qn0 h4 hl,by simpa [wkI,g] using hp⟩
  refine ⟨⟨?_,⟨?_,?_,?_,?_,?_⟩,h.defs,h.nodup,h.marks⟩,?_⟩
  · intro t v' ht;obtain ⟨v,hv,ag⟩:=y.slots t v' ht;obtain ⟨x,hx,hr⟩:=h.slots t v hv;exact ⟨x,hx,qcp h.heap ag hr⟩
  · intro n s hb;obtain ⟨h1,k⟩:=y.blocks n s hb;refine ⟨h1,?_⟩;rcases k with ⟨k,es,af,rfl⟩ | ⟨k,b,h3,h4⟩
    · exact ⟨af,qe,.inl ⟨rfl,by simp [wkI,k]⟩⟩
    · exact q11i h.heap k h4 (h.heap.blk _ _ h3).2
  · intro n m b c p q z u ak an hp hq am;obtain ⟨n1,b0,n2,n3,n4⟩:=back n b z ak p hp;obtain ⟨m1,c0,m2,m3,m4⟩:=back m c u an q hq;exact h.heap.sep _ _ b0 c0 p q n2 m2 n3 m3 n4 m4 (fun e=>am (y.inj n m b c z u n1 m1 e))
  · intro n b p z hl hp d;obtain ⟨n1,b0,n2,n3,n4⟩:=back n b z hl p hp;rcases d with d | ⟨m,u,es,xs,o,l,j⟩
    · exact h.heap.out _ b0 p n2 n3 n4 d
    · exact h.heap.sep _ _ b0 _ p (p.1,o) n2 l n3 rfl n4 j (fun e=>y.free n b z n1 (by rw [e];exact u)) rfl
  · intro b d;rcases d with d | ⟨m,u,es,xs,o,l,j⟩
    · exact h.heap.zs b d
    · exact h.heap.im_lt ⟨m,_,o,l,rfl,j⟩
  · intro b d;rcases d with d | ⟨m,u,es,xs,o,l,j⟩
    · exact h.heap.zc b d
    · obtain ⟨_,_,b3⟩:=(h.heap.blk m _ l).2;rcases b3 with ⟨_,b4⟩ | ⟨s,ay,arr,ty,b4,b5,_⟩
      · rw [j] at b4;cases b4
      · rw [j] at b4;cases b4;exact ⟨_,_,_,b5⟩
  · refine ⟨Nat.le_refl _,fun _ _ _=>rfl,?_,fun _ c e f h=>⟨c,e,f,h,rfl⟩,fun _ r h=>⟨r,h,rfl⟩,fun _ h=>.inl h,?_,?_,rfl,rfl,rfl,fun _=>rfl⟩
    · rintro b ⟨n,blk,o,l,k2,j⟩;obtain ⟨n1,b0,n2,n3,n4⟩:=back n blk l k2 _ j;exact .inl ⟨_,b0,o,n2,n3,n4⟩
    · intro b d;rcases d with d | ⟨m,u,es,xs,o,l,j⟩
      · exact .inl d
      · exact .inr (.inl ⟨m,_,o,l,rfl,j⟩)
    · intro n z;have g : n ∉ ph:=fun hc=>by have:=y.phantom n hc;omega
      simp [wkI,g,y.small n z]
end
end Go.Am
namespace Go.Am
open Go
variable {P : Program} {T : Tab}
section
variable {w : World} {Z : Nat→Prop} {inj : Inj} {st : AS} {a : Act} {Ds : List Nat}
theorem qut {r : ResultVar} {v : V} (l : Z6 P T) (h : RelH w Z inj st.hp st.nx) (hs : Yv w Z inj st.nx st.sl a.tmps) (f : qfj T st r = some v) :
    ∃ x,(match r with | .tmp t=>pure (a.tmps.getD t undef) | .cell p t=>(do loadVar t (← asAddr (a.tmps.getD p undef)) : Sem Value) : Sem Value).run P w = .ok x w∧RelV w Z inj st.nx v x:=by
  cases r with
  | tmp t=>
    obtain ⟨x,g,d⟩:=hs t v f;exact ⟨x,by simp [Array.getD_eq_getD_getElem?,g],d⟩
  | cell p t=>
    simp only [qfj] at f;split at f <;> try simp at f
    rename_i pv i hp j;obtain ⟨x,g,d⟩:=hs p pv hp;obtain ⟨b,o,y,e,c,k⟩:=qjm (P:=P) h (l _ _ j) d f;refine ⟨y,?_,k⟩;rw [e] at g c;simp [Instr.loadAt,Instr.sureAddr] at c;simp [Array.getD_eq_getD_getElem?,g,asAddr,c]
theorem qld (s : Z6 P T) (h : RelH w Z inj st.hp st.nx) (hs : Yv w Z inj st.nx st.sl a.tmps) (g : ResultVar→Sem Value) (f : ∀ t,g (.tmp t) = pure (a.tmps.getD t undef))
    (b : ∀ p t,g (.cell p t) = (do loadVar t (← asAddr (a.tmps.getD p undef)))) : ∀ {l : List ResultVar} {k : List V},resL T st l = some k→
    ∃ xs : List Value,(l.mapM g).run P w = .ok xs w∧LRel w Z inj st.nx k xs.toArray
  | [],k,hr=>by simp [resL] at hr;subst hr;exact ⟨[],qe,qe,qe⟩
  | r::l,k,hr=>by
    simp only [resL] at hr
    split at hr <;> try simp at hr
    rename_i v z u y
    subst hr
    obtain ⟨x,n,j⟩:=qut s h hs u
    obtain ⟨xs,o,q⟩:=qld s h hs g f b y
    have n : (g r).run P w = .ok x w:=by
      rw [← n];cases r
      · rw [f]
      · rw [b]
    refine ⟨x::xs,?_,?_,?_⟩
    · rw [List.mapM_cons]
      simp only [Sem.run_bind,n,Result.andThen_ok,o,Sem.run_pure]
    · have:=q.1;simp at this ⊢;omega
    · intro i d c hd m
      cases i with
      | zero=>simp at hd m;subst hd m;exact j
      | succ i=>simp at hd m;exact q.2 i d c hd (by simpa using m)
theorem qrs {nx : Nat} {cs : List V} {xs : Array Value} (h : LRel w Z inj nx cs xs) : RelV w Z inj nx (qez cs) (.tuple xs):=by
  unfold qez;split
  · rename_i ds hd;have:=q36 hd;subst this;refine .d (.tup (by simpa using h.1) fun i d c a b=>?_);have:=h.2 i (.d d) c (by simp [a]) b
    cases this with | d h=>exact h
  · exact .tup h.1 h.2
theorem quu {fn : Func} {v : V} (q : Z6 P T) (h : RelH w Z inj st.hp st.nx) (hs : Yv w Z inj st.nx st.sl a.tmps) (c : resV T st fn.results.toList = some v) : ∃ x,(results fn a.tmps).run P w = .ok x w∧RelV w Z inj st.nx v x:=by
  unfold resV at c
  have key : ∀ f,resL T st fn.results.toList = some f→∃ xs : List Value,(results fn a.tmps).run P w = .ok (if h : xs.toArray.size = 1 then xs.toArray[0] else .tuple xs.toArray) w∧LRel w Z inj st.nx f xs.toArray:=by
    intro f b;unfold results;generalize n : (fun x=>match x with | .tmp t=>pure (a.tmps.getD t undef) | .cell p t=>(do loadVar t (← asAddr (a.tmps.getD p undef)) : Sem Value) : ResultVar→Sem Value) = g;rw [Sem.run_bind,Array.mapM_eq_mapM_toList,Sem.run_map];obtain ⟨xs,m,d⟩:=qld q h hs g (fun t=>by rw [← n]) (fun p t=>by rw [← n]) b;refine ⟨xs,?_,d⟩;rw [m];rfl
  split at c
  · rename_i s b;simp at c;subst c;obtain ⟨xs,k,d⟩:=key _ b;obtain ⟨y,o,j⟩:=qem d;have : xs = [y]:=by simpa using congrArg Array.toList o
    subst this;exact ⟨y,by simpa using k,j⟩
  · rename_i f l b;simp at c;subst c;obtain ⟨xs,k,d⟩:=key _ b;refine ⟨.tuple xs.toArray,?_,qrs d⟩
    have : xs.toArray.size≠1:=by
      rw [← d.1];intro r
      match f,r with
      | [x],_=>exact l x rfl
    rw [dif_neg this] at k;exact k
  · simp at c
end
end Go.Am
namespace Go.Am
open Go
variable {P : Program} {T : Tab}
section
variable {w : World} {Z : Nat→Prop} {inj : Inj} {hp : List (Nat × Blk)} {nx : Nat}
theorem q56 {α β : Type} {f : α→Option β} : ∀ {l : List α} {r : List β},Zt f l = some r→r.length = l.length∧∀ (i : Nat) (x : α),l[i]? = some x→∃ y,r[i]? = some y∧f x = some y
  | [],r,h=>by simp [Zt] at h;subst h;simp
  | x::l,r,h=>by
    simp only [Zt] at h
    split at h <;> try simp at h
    rename_i y c
    split at h <;> simp at h
    rename_i m b
    subst h
    obtain ⟨d,k⟩:=q56 b
    refine ⟨by simp [d],fun i z a=>?_⟩
    cases i with
    | zero=>simp at a;subst a;exact ⟨y,rfl,c⟩
    | succ i=>simp at a;obtain ⟨u,j,g⟩:=k i z a;exact ⟨u,by simpa using j,g⟩
def zAll (w : World) (Z : Nat→Prop) (inj : Inj) (hp : List (Nat × Blk)) (b : Nat) : Prop:=Z b∨(im hp inj b∧∃ c e f,w.heap[b]? = some (.cells c e f))
theorem q119 {k : Nat} {v : V} {d : DV} (h : toD hp k v = some d) (a : Kp v = true) : Yl d = true:=by
  cases k with
  | zero=>cases v <;> simp [toD] at h;subst h;exact a
  | succ k=>
    cases v with
    | d x=>simp [toD] at h;subst h;exact a
    | agg cs=>simp [Kp] at a
    | tup cs=>simp [Kp] at a
    | dead=>simp [Kp] at a
    | fn f cs=>simp only [toD,Y3] at h;obtain ⟨_,_,rfl⟩:=h;rfl
    | yld n=>simp [toD] at h
    | mp n=>simp [toD] at h
    | dref cs j=>simp [toD] at h
    | hs n es o l=>
      simp only [toD] at h;split at h
      · split at h <;> simp at h;subst h;rfl
      · split at h <;> simp at h;obtain ⟨_,_,rfl⟩:=h;rfl
      · simp at h
    | ref n es i j=>
      simp only [toD] at h;split at h
      · split at h <;> simp at h;subst h;rfl
      · split at h <;> simp at h;obtain ⟨_,_,rfl⟩:=h;rfl
      · simp at h
theorem qa8 (h : RelH w Z inj hp nx) : ∀ (k : Nat) {v : V} {x : Value} {d : DV},toD hp k v = some d→RelV w Z inj nx v x→RelD w (zAll w Z inj hp) d x
  | 0,v,x,d,hd,hv=>by
    cases v <;> simp [toD] at hd
    subst hd
    cases hv with | d hv=>exact hv.mono (fun _ _=>rfl) (fun _ hz=>.inl hz)
  | k + 1,v,x,d,hd,hv=>by
    have hz : ∀ b,Z b→zAll w Z inj hp b:=fun _ hz=>.inl hz
    have ih:=fun {v : V} {x : Value} {d : DV}=>qa8 h k (v:=v) (x:=x) (d:=d)
    have list : ∀ {cs : List V} {ds : List DV} {xs : Array Value},Zt (toD hp k) cs = some ds→cs.length = xs.size→(∀ (i : Nat) (d : V) (c : Value),cs[i]? = some d→xs[i]? = some c→RelV w Z inj nx d c)→
        ds.length = xs.size∧∀ (i : Nat) (d : DV) (c : Value),ds[i]? = some d→xs[i]? = some c→RelD w (zAll w Z inj hp) d c:=by
      intro cs ds xs hm hl hr;obtain ⟨h1,h2⟩:=q56 hm;refine ⟨q0,fun i d c hd hc=>?_⟩;obtain ⟨y,hy⟩:=Yk h1 hd;obtain ⟨d',q,hf⟩:=h2 i y hy;rw [hd] at q;cases q;exact ih hf (hr i y c hy hc)
    cases v with
    | d y=>simp [toD] at hd;subst hd;cases hv with | d hv=>exact hv.mono (fun _ _=>rfl) hz
    | agg cs=>
      simp only [toD,Y3] at hd;obtain ⟨ds,hm,rfl⟩:=hd
      cases hv with | agg h1 h2=>obtain ⟨a,b⟩:=list hm h1 h2;exact .agg a b
    | tup cs=>
      simp only [toD,Y3] at hd;obtain ⟨ds,hm,rfl⟩:=hd
      cases hv with | tup h1 h2=>obtain ⟨a,b⟩:=list hm h1 h2;exact .tup a b
    | fn f cs=>
      simp only [toD,Y3] at hd;obtain ⟨ds,hm,rfl⟩:=hd
      cases hv with | fn h1 h2=>obtain ⟨a,b⟩:=list hm h1 h2;exact .fn a b
    | dead=>simp [toD] at hd
    | yld n=>simp [toD] at hd
    | mp n=>simp [toD] at hd
    | dref cs j=>simp [toD] at hd
    | hs n es o l=>
      have key : ∀ (rows : List (List DV)) (blk : Blk),rows.length = l→find hp n = some blk→live blk = true→(∀ (i : Nat) (x : List DV),rows[i]? = some x→x.length = es)→
          (∀ b r,inj n = some (b,r)→∃ arr ty,w.heap[b]? = some (.cells arr ty (0,0))∧∀ (i : Nat) (x : List DV) (j : Nat) (d : DV),rows[i]? = some x→x[j]? = some d→Yl d = true∧∃ c,arr[r + ((o + i) * es + j)]? = some c∧RelD w (zAll w Z inj hp) d c)→
          RelD w (zAll w Z inj hp) (.sl es rows) x:=by
        intro rows blk ae hb s aa t
        cases hv with
        | hsnil h1=>
          have : rows = []:=List.length_eq_zero_iff.1 ae;subst this;exact .slnil es
        | @hs _ _ _ _ cap ad h1 h2 h3 h4=>
          obtain ⟨bb,oo,sp⟩:=ad;simp only at h3;subst h3;by_cases h0 : l = 0
          · have : rows = []:=List.length_eq_zero_iff.1 q0;subst this;subst h0;exact RelD.sl (es:=es) (xs:=[]) qe qe qe qe qe
          · obtain ⟨b,r,e1,e2,e3⟩:=h4 q0;rw [e2];obtain ⟨arr,ty,b5,b6⟩:=t b r e1;have e9 : ∀ i j,r + o * es + (i * es + j) = r + ((o + i) * es + j):=by intro i j;rw [Nat.add_mul];omega
            have hc : ∀ (i : Nat) (x : List DV) (j : Nat) (d : DV),rows[i]? = some x→x[j]? = some d→Yl d = true∧∃ c,w.cell? ⟨b,r + o * es + (i * es + j),none⟩ = some c∧RelD w (zAll w Z inj hp) d c:=by
              intro i x j d g hd;obtain ⟨c1,c,c2,c3⟩:=b6 _ x j d g hd;exact ⟨c1,c,by rw [e9];simp only [World.cell?,b5];exact c2,c3⟩
            have:=RelD.sl (w:=w) (Z:=zAll w Z inj hp) (es:=es) (xs:=rows) (b:=b) (o:=r + o * es) (cap:=cap) (by rw [ae];exact h2) (fun _=>.inr ⟨⟨n,blk,r,hb,s,e1⟩,_,_,_,b5⟩) aa
              (fun i x j d g hd=>by obtain ⟨c1,c,c2,_⟩:=hc i x j d g hd;exact ⟨c1,c,c2⟩)
              (fun i x j d c g hd ah=>by obtain ⟨_,c',c2,c3⟩:=hc i x j d g hd;rw [c2] at ah;cases ah;exact c3)
            rw [ae] at this;exact this
      simp only [toD] at hd;split at hd
      · rename_i m xs hb;split at hd <;> simp at hd
        rename_i ai;obtain ⟨ai,rfl⟩:=ai;subst hd;obtain ⟨b1,b2,b3⟩:=(h.blk n _ hb).2
        have z : ∀ (i : Nat) (x : List DV),((xs.drop o).take l)[i]? = some x→xs[o + i]? = some x:=by
          intro i x g;rw [List.getElem?_take] at g;split at g
          · rwa [List.getElem?_drop] at g
          · simp at g
        refine key _ _ (by simp;omega) hb rfl (fun i x g=>b2 _ _ (z i x g)) ?_;intro b r hi;rcases b3 with ⟨_,p⟩ | ⟨b',ao,arr,ty,p,b5,b6⟩
        · rw [hi] at p;cases p
        · rw [hi] at p;cases p;refine ⟨arr,ty,b5,fun i x j d g hd=>?_⟩;obtain ⟨c1,c,c2,c3⟩:=b6 _ x j d (z i x g) hd;exact ⟨c1,c,c2,c3.mono (fun _ _=>rfl) hz⟩
      · rename_i m xs hb;split at hd <;> simp at hd
        rename_i ai;obtain ⟨ai,rfl⟩:=ai;obtain ⟨rows,hm,rfl⟩:=hd;obtain ⟨m1,m2⟩:=q56 hm;obtain ⟨b1,b2,b3⟩:=(h.blk n _ hb).2
        have z : ∀ (i : Nat) (x : List V),((xs.drop o).take l)[i]? = some x→xs[o + i]? = some x:=by
          intro i x g;rw [List.getElem?_take] at g;split at g
          · rwa [List.getElem?_drop] at g
          · simp at g
        have aa : ∀ (i : Nat) (x : List DV),rows[i]? = some x→∃ y,xs[o + i]? = some y∧Zt (toD hp k) y = some x:=by
          intro i x g;obtain ⟨y,hy⟩:=Yk m1 g;obtain ⟨x',av,hf⟩:=m2 i y hy;rw [g] at av;cases av;exact ⟨y,z _ _ hy,hf⟩
        refine key rows _ (by simp at m1;omega) hb rfl (fun i x g=>by obtain ⟨y,hy,hf⟩:=aa i x g;rw [(q56 hf).1];exact b2 _ _ hy) ?_;intro b r hi;rcases b3 with ⟨_,p⟩ | ⟨b',ao,arr,ty,p,b5,b6⟩
        · rw [hi] at p;cases p
        · rw [hi] at p;cases p;refine ⟨arr,ty,b5,fun i x j d g hd=>?_⟩;obtain ⟨y,hy,hf⟩:=aa i x g;obtain ⟨f1,f2⟩:=q56 hf;obtain ⟨u,hu⟩:=Yk f1 hd;obtain ⟨d',q,ak⟩:=f2 j u hu;rw [hd] at q;cases q;obtain ⟨c1,c,c2,c3⟩:=b6 _ y j u hy hu;exact ⟨q119 ak c1,c,c2,ih ak c3⟩
      · simp at hd
    | ref n es i j=>
      have key : ∀ (row : List DV) (blk : Blk),i = 0→j = 0→find hp n = some blk→live blk = true→
          (∀ b r,inj n = some (b,r)→∃ arr ty,w.heap[b]? = some (.cells arr ty (0,0))∧∀ (j : Nat) (d : DV),row[j]? = some d→∃ c,arr[r + j]? = some c∧RelD w (zAll w Z inj hp) d c)→
          RelD w (zAll w Z inj hp) (.box row) x:=by
        intro row blk hi hj hb s t
        subst hi hj
        cases hv with | @ref _ _ _ _ b o h1 h2=>
        obtain ⟨arr,ty,b5,b6⟩:=t b o h2
        have hc : ∀ (j : Nat) (d : DV),row[j]? = some d→∃ c,w.cell? ⟨b,o + (0 * es + 0) + j,none⟩ = some c∧RelD w (zAll w Z inj hp) d c:=by
          intro j d hd;obtain ⟨c,c2,c3⟩:=b6 j d hd;exact ⟨c,by simp only [World.cell?,b5];rw [← c2];simp,c3⟩
        exact .box (.inr ⟨⟨n,blk,o,hb,s,h2⟩,_,_,_,b5⟩) (fun j d hd=>by obtain ⟨c,c2,_⟩:=hc j d hd;exact ⟨c,c2⟩)
          (fun j d c hd ah=>by obtain ⟨c',c2,c3⟩:=hc j d hd;rw [c2] at ah;cases ah;exact c3)
      simp only [toD] at hd;split at hd
      · rename_i m xs hb;split at hd <;> simp at hd
        subst hd;obtain ⟨b1,b2,b3⟩:=(h.blk n _ hb).2;refine key _ _ rfl rfl hb rfl ?_;intro b r hi;rcases b3 with ⟨p,_⟩ | ⟨b',ao,arr,ty,p,b5,b6⟩
        · simp at p
        · rw [hi] at p;cases p;refine ⟨arr,ty,b5,fun j d hd=>?_⟩;obtain ⟨_,c,c2,c3⟩:=b6 0 _ j d rfl hd;exact ⟨c,by rw [← c2];simp,c3.mono (fun _ _=>rfl) hz⟩
      · rename_i m xs hb;split at hd <;> simp at hd
        obtain ⟨row,hm,rfl⟩:=hd;obtain ⟨b1,b2,b3⟩:=(h.blk n _ hb).2;refine key _ _ rfl rfl hb rfl ?_;intro b r hi;rcases b3 with ⟨p,_⟩ | ⟨b',ao,arr,ty,p,b5,b6⟩
        · simp at p
        · rw [hi] at p;cases p;refine ⟨arr,ty,b5,fun j d hd=>?_⟩;obtain ⟨f1,f2⟩:=q56 hm;obtain ⟨u,hu⟩:=Yk f1 hd;obtain ⟨d',q,ak⟩:=f2 j u hu;rw [hd] at q;cases q;obtain ⟨_,c,c2,c3⟩:=b6 0 _ j u rfl hu;exact ⟨c,by rw [← c2];simp,ih ak c3⟩
      · simp at hd
theorem qgk (h : RelH w Z inj hp nx) : ∀ {f : List V} {ds : List DV},Kv hp f = some ds→ds.length = f.length∧∀ (i : Nat) (v : V),f[i]? = some v→∃ d,ds[i]? = some d∧toD hp 8 v = some d
  | [],ds,hd=>by simp [Kv] at hd;subst hd;simp
  | v::r,ds,hd=>by
    simp only [Kv] at hd
    split at hd <;> simp at hd
    rename_i x l g m
    subst hd
    obtain ⟨a,b⟩:=qgk h m
    refine ⟨by simp [a],fun i u c=>?_⟩
    cases i with
    | zero=>simp at c;subst c;exact ⟨x,rfl,g⟩
    | succ i=>simp at c;obtain ⟨d,k,j⟩:=b i u c;exact ⟨d,by simpa using k,j⟩
theorem qrj (h : RelH w Z inj hp nx) {g : List V} {ds : List DV} {xs : Array Value} (hd : Kv hp g = some ds) (k : LRel w Z inj nx g xs) (inj' : Inj) : LRel w (zAll w Z inj hp) inj' 0 (ds.map .d) xs:=by
  obtain ⟨a,b⟩:=qgk h hd;refine ⟨by simpa [a] using k.1,fun i d c f m=>?_⟩;simp only [List.getElem?_map,Y3] at f;obtain ⟨o,f,rfl⟩:=f;obtain ⟨v,l⟩:=Yk a f;obtain ⟨p,j,n⟩:=b i v l;rw [f] at j;cases j;exact .d (qa8 h 8 n (k.2 i v c l m))
theorem qri {a : List V} {ds : List DV} {xs : Array Value} (hd : Kv hp a = some ds) (f : a.all V.isD = true) (k : LRel w Z inj nx a xs) (inj' : Inj) : LRel w Z inj' 0 (ds.map .d) xs:=by
  have e : ∀ {a : List V} {ds : List DV},Kv hp a = some ds→a.all V.isD = true→ds.map .d = a:=by
    intro a
    induction a with
    | nil=>intro ds hd _;simp [Kv] at hd;subst hd;rfl
    | cons v r ih=>
      intro ds hd f;simp only [Kv] at hd;split at hd <;> simp at hd
      rename_i x l b h;subst hd;simp only [List.all_cons,Bool.and_eq_true] at f;obtain ⟨g,j⟩:=f;cases v <;> simp [V.isD] at g
      simp [toD] at b;subst b;rw [List.map_cons,ih h j]
  refine ⟨by rw [e hd f];exact k.1,fun i d c b h=>?_⟩;rw [e hd f] at b;have m : V.isD d = true:=(List.all_eq_true.1 f) d (List.mem_of_getElem? b);have:=k.2 i d c b h;cases this <;> simp [V.isD] at m
  exact .d ‹_›
theorem qv1 {Z Z' : Nat→Prop} {d : DV} {x : Value} (h : RelD w Z d x) (hs : d.scalar = true) : RelD w Z' d x:=by
  have go : ∀ {ds : List DV},DV.scalar.go ds = true→∀ (i : Nat) (d : DV),ds[i]? = some d→(∀ {x : Value},RelD w Z d x→RelD w Z' d x):=by
    intro ds
    induction ds with
    | nil=>intro _ i d h;simp at h
    | cons y r ih=>
      intro a i d hd
      cases i with
      | zero=>
        simp at hd;subst hd;intro x f;cases y <;> simp [DV.scalar.go] at a <;> cases f <;> constructor
      | succ i=>
        simp at hd;refine ih ?_ i d hd;cases y <;> simp [DV.scalar.go] at a <;> exact a
  cases d <;> simp [DV.scalar] at hs
  case tup ds=>cases h with | tup h1 h2=>exact .tup h1 fun i d c hd b=>go hs i d hd (h2 i d c hd b)
  case agg ds=>cases h with | agg h1 h2=>exact .agg h1 fun i d c hd b=>go hs i d hd (h2 i d c hd b)
  all_goals (cases h <;> constructor)
end
end Go.Am
namespace Go.Am
open Go
variable {P : Program} {T : Tab}
def Fw (ro : Option Nat) : Fence:={fn:=fun _=>True,depth:=none,alive:=false,round:=ro}
def toE : Ex→Exit
  | .nor=>.normal
  | .exit id=>.exit id
  | .ret=>.ret
def Yh (ro : Option Nat) (w : World) : Prop:=∀ l,ro = some l→∃ r,w.heap[l]? = some (.loop r)
def Kw (base : Nat) (w : World) (Z : Nat→Prop) (inj : Inj) (st : AS) (a : Act) (Ds : List Nat) (st' : AS) (a' : Act) (w' : World) : Prop:=
  ∃ Z' inj' Ds',RelS w' Z' inj' st' a' Ds'∧Ext w Z inj st.hp w' Z' inj' st'.hp base∧a'.tmps.size = a.tmps.size∧base≤st'.nx∧∀ D∈Ds',D∈Ds∨w.heap.size≤D
section
variable {base : Nat} {w : World} {Z : Nat→Prop} {inj : Inj} {st st' st'' : AS} {a a' a'' : Act} {Ds : List Nat} {w' w'' : World}
theorem Kw.refl (h : RelS w Z inj st a Ds) (hb : base≤st.nx) : Kw base w Z inj st a Ds st a w:=⟨Z,inj,Ds,h,.refl,rfl,hb,fun _ h=>.inl h⟩
theorem Yh.ext {ro : Option Nat} {Z' : Nat→Prop} {inj' : Inj} {hp hp' : List (Nat × Blk)} {pin : Nat} (h : Yh ro w) (e : Ext w Z inj hp w' Z' inj' hp' pin) : Yh ro w':=
  fun l a=>let ⟨r,hr⟩:=h l a;let ⟨r',h',_⟩:=e.loops l r hr;⟨r',h'⟩
theorem Kw.bind {Q : Prop} (p : Kw base w Z inj st a Ds st' a' w') (h : ∀ Z' inj' b,RelS w' Z' inj' st' a' b→a'.tmps.size = a.tmps.size→base≤st'.nx→(∀ ro,Yh ro w→Yh ro w')→
    (∀ st'' a'' w'',Kw base w' Z' inj' st' a' b st'' a'' w''→Kw base w Z inj st a Ds st'' a'' w'')→Q) : Q:=by
  obtain ⟨Z',inj',b,g,c,d,s,o⟩:=p;refine h Z' inj' b g d s (fun ro k=>k.ext c) ?_;rintro st'' a'' w'' ⟨r,l,m,u,q,n,f,j⟩;refine ⟨r,l,m,u,c.trans q (Nat.le_refl _),n.trans d,f,fun D t=>?_⟩;rcases j D t with h | h
  · exact o D h
  · exact .inr (Nat.le_trans c.size h)
theorem qhu {n : Nat} {t : Tmp} (h : Jc n (some t) = true) : t < n:=by simpa [Jc,Nat.blt_eq] using h
theorem qkr (a : Act) (d : Option Tmp) (v : Value) : (a.put d v).tmps.size = a.tmps.size:=by cases d <;> simp [Act.put]
theorem Yv.put {nx : Nat} {s : List (Nat × V)} {tmps : Array Value} {v : V} {x : Value} {t : Tmp} (h : Yv w Z inj nx s tmps) (c : RelV w Z inj nx v x) (f : t < tmps.size) : Yv w Z inj nx ((t,v)::s) (tmps.setIfInBounds t x):=by
  intro u y a;rw [Kx] at a;split at a
  · rename_i e;subst e;cases a;exact ⟨x,by simp [f],c⟩
  · rename_i e;obtain ⟨z,b,d⟩:=h u y a;exact ⟨z,by rw [Array.getElem?_setIfInBounds_ne e];exact b,d⟩
theorem qum {Z' : Nat→Prop} {inj' : Inj} {hp' : List (Nat × Blk)} {nx' : Nat} {v : V} {x : Value} {dst : Option Tmp} (h : RelS w Z inj st a Ds) (e : Ext w Z inj st.hp w' Z' inj' hp' st.nx) (c : RelH w' Z' inj' hp' nx') (f : st.nx≤nx')
    (d : RelV w' Z' inj' nx' v x) (hd : Jc a.tmps.size dst = true) : RelS w' Z' inj' ({sl:=st.sl,hp:=hp',nx:=nx' : AS}.putD dst v) (a.put dst x) Ds:=by
  have hs : Yv w' Z' inj' nx' st.sl a.tmps:=h.slots.mono (e.zkeep h.heap) e.zin e.big e.pinj f
  cases dst with
  | none=>exact ⟨hs,c,h.defs,h.nodup,fun D b=>e.marks h.heap (h.marks D b)⟩
  | some t=>exact ⟨hs.put d (qhu hd),c,h.defs,h.nodup,fun D b=>e.marks h.heap (h.marks D b)⟩
theorem Yn (st : AS) (d : Option Tmp) (v : V) : (st.putD d v).hp = st.hp:=by cases d <;> rfl
theorem Yo (st : AS) (d : Option Tmp) (v : V) : (st.putD d v).nx = st.nx:=by cases d <;> rfl
theorem q3t {Z' : Nat→Prop} {inj' : Inj} {hp' : List (Nat × Blk)} {nx' : Nat} {v : V} {x : Value} {dst : Option Tmp} (h : RelS w Z inj st a Ds) (hb : base≤st.nx) (e : Ext w Z inj st.hp w' Z' inj' hp' st.nx) (d : RelH w' Z' inj' hp' nx') (b : st.nx≤nx')
    (c : RelV w' Z' inj' nx' v x) (hd : Jc a.tmps.size dst = true) : Kw base w Z inj st a Ds ({sl:=st.sl,hp:=hp',nx:=nx' : AS}.putD dst v) (a.put dst x) w':=
  ⟨Z',inj',Ds,qum h e d b c hd,by rw [Yn];exact e.pin_le hb,qkr _ _ _,by rw [Yo];exact Nat.le_trans hb b,fun _ h=>.inl h⟩
def Ue (P : Program) (F : Fence) (ops : Array Oper) (Q : Exit→Act→World→Prop) (o : Oper) (K : Act→World→Prop) (a : Act) (w : World) : Prop:=
  if Region.wanted o (yielded ops a.tmps) then o.wpIn F 0 P a w K Q else (∀ f,o.about P w a.eval = some f→F.fn f)∧K (a.put o.dst undef) w
theorem qfz {F : Fence} {ops : Array Oper} {Q : Exit→Act→World→Prop} {o : Oper} {K : Act→World→Prop} {i : Nat} (hi : ops[i]? = some o) (h : Ue P F ops Q o K a w) : wpOpIn F 0 P ops Q i K a w:=by
  unfold wpOpIn;rw [hi];exact h
def Js (P : Program) (base : Nat) (ops : Array Oper) (o : Oper) (st st' : AS) : Prop:=
  ∀ (ro : Option Nat) (Q : Exit→Act→World→Prop) (w : World) (Z : Nat→Prop) (inj : Inj) (a : Act) (Ds : List Nat) (K : Act→World→Prop),RelS w Z inj st a Ds→Jc a.tmps.size o.dst = true→base≤st.nx→Yh ro w→
    (∀ a' w',Kw base w Z inj st a Ds st' a' w'→K a' w')→Ue P (Fw ro) ops Q o K a w
theorem q3k {ops : Array Oper} {o : Oper} {b : Bool} (h : RelS w Z inj st a Ds) (c : Qr ops st o = some b) : Region.wanted o (yielded ops a.tmps) = b:=by
  unfold Qr at c;unfold Region.wanted
  cases g : o.guard with
  | none=>rw [g] at c;simp at c;simp [c]
  | some jw=>
    obtain ⟨j,m⟩:=jw;rw [g] at c;simp only at c ⊢
    cases hd : (ops[j]?).bind (·.dst) with
    | none=>rw [hd] at c;simp at c
    | some t=>
      rw [hd] at c;simp only at c;unfold yielded;rw [hd];split at c
      · rename_i n l;obtain ⟨x,k,f⟩:=h.slots t _ l
        cases f with | d f=>
        cases f;simp at c;simp [k,c]
      · rename_i l;obtain ⟨x,k,f⟩:=h.slots t _ l
        cases f with | d f=>
        cases f;simp at c;simp [k,← c]
      · simp at c
theorem qup {nx : Nat} : RelV w Z inj nx (.d (.tup [])) undef:=.d (.tup qe qe)
theorem qiz {ops : Array Oper} {o : Oper} (b : Qr ops st o = some false) : Js P base ops o st (st.putD o.dst (.d (.tup []))):=by
  intro ro Q w Z inj a Ds K h hd hb _ c;unfold Ue;rw [q3k h b];simp only [Bool.false_eq_true,if_false];exact ⟨fun _ _=>trivial,c _ _ (q3t h hb .refl h.heap (Nat.le_refl _) qup hd)⟩
theorem qki {op : Op} {v : V} {st1 : AS} (a : opFn T st op = some (v,st1)) : ∀ c,op≠.defer c:=by
  rintro c rfl;simp [opFn] at a
theorem qe7 {ops : Array Oper} {o : Oper} {v : V} {st1 : AS} (p : Z6 P T) (n : Qr ops st o = some true) (g : opFn T st o.op = some (v,st1)) : Js P base ops o st (st1.putD o.dst v):=by
  intro ro Q w Z inj a Ds K h hd hb _ f;unfold Ue;rw [q3k h n];simp only [if_true];refine ⟨fun _ _=>trivial,?_⟩;rw [show (Fw ro).round = ro from rfl,Oper.semAt_eq ro _ o (qki g)];obtain ⟨x,w',inj',c,k,j,l,d,m⟩:=qkj p h g;obtain ⟨sl1,hp1,nx1⟩:=st1;simp only at d m k j l;subst d;have b:=q3t h hb l j m k hd;rcases c with c | ⟨c,rfl⟩
  · rw [c];exact f _ _ b
  · rw [c];exact f _ _ b
def Jq (P : Program) (f : FuncId) (vs : List V) (hp : List (Nat × Blk)) (nx : Nat) (v : V) (hp' : List (Nat × Blk)) (nx' : Nat) : Prop:=
  (∀ (args : Array Value) (w : World),(callFunc f args).run P w = .ok (.enter f args) w)∧
  ∀ (w : World) (Z : Nat→Prop) (inj : Inj) (xs : Array Value),RelH w Z inj hp nx→LRel w Z inj nx vs xs→
    CallsIn (Fw none) 0 P f xs w (fun e w'=>∃ x Z' inj',e = .returned x∧RelH w' Z' inj' hp' nx'∧Ext w Z inj hp w' Z' inj' hp' nx∧RelV w' Z' inj' nx' v x∧nx≤nx')
theorem qd7 {c : Call} {o : Oper} {f : FuncId} {y : List V} (h : RelS w Z inj st a Ds) (z : o.op = .call c) (j : callee st c = some (f,y)) (k : ∀ (args : Array Value) (w : World),(callFunc f args).run P w = .ok (.enter f args) w) :
    ∃ xs,(execOp a.eval o).run P w = .ok (.enter f xs) w∧LRel w Z inj st.nx y xs:=by
  obtain ⟨dst,op,type,pos,after,guard⟩:=o;simp only at z;subst z;obtain ⟨v,args,argTypes⟩:=c;unfold callee at j;simp only at j;cases v <;> simp only [reduceCtorEq] at j
  rename_i g
  have app : ∀ {as b : List V} {xs ys : Array Value},LRel w Z inj st.nx as xs→LRel w Z inj st.nx b ys→LRel w Z inj st.nx (as ++ b) (xs ++ ys):=by
    intro as b xs ys m p;refine ⟨by simp [m.1,p.1],fun i d c hd j=>?_⟩;by_cases hi : i < as.length
    · rw [List.getElem?_append_left hi] at hd;rw [Array.getElem?_append_left (by rw [← m.1];exact hi)] at j;exact m.2 i d c hd j
    · rw [List.getElem?_append_right q0] at hd;rw [Array.getElem?_append_right (by rw [← m.1];omega),← m.1] at j;exact p.2 _ d c hd j
  have x : (args.toList.map a.eval).toArray = args.map a.eval:=by apply Array.ext';simp
  split at j <;> simp at j
  · rename_i f' b t s r;obtain ⟨rfl,rfl⟩:=j;have l:=Kd h s;generalize n : a.eval g = gv at l
    cases l with | d l=>
    cases l with | @fn _ _ cs m p=>
    have q:=q3e h r;rw [x] at q;refine ⟨args.map a.eval ++ cs,?_,app q ⟨by simpa using m,fun i d c hd j=>?_⟩⟩
    · simp [execOp,resolve,n,Deferred.ofValue,invoke,k]
    · simp only [List.getElem?_map,Y3] at hd;obtain ⟨u,hd,rfl⟩:=hd;exact .d (p i u c hd j)
  · rename_i f' b t s r;obtain ⟨rfl,rfl⟩:=j;have l:=Kd h s;generalize n : a.eval g = gv at l
    cases l with | @fn _ _ cs m p=>
    have q:=q3e h r;rw [x] at q;refine ⟨args.map a.eval ++ cs,?_,app q ⟨m,p⟩⟩;simp [execOp,resolve,n,Deferred.ofValue,invoke,k]
  · rename_i f' b t s r;obtain ⟨rfl,rfl⟩:=j;have l:=Kd h s;generalize n : a.eval g = gv at l
    cases l with | d l=>
    cases l with | @bfn _ _ cs m p=>
    have q:=q3e h r;rw [x] at q;refine ⟨cs ++ args.map a.eval,?_,app ⟨by simpa using m,fun i d c hd j=>?_⟩ q⟩
    · simp [execOp,resolve,n,Deferred.ofValue,invoke,k]
    · simp only [List.getElem?_map,Y3] at hd;obtain ⟨u,hd,rfl⟩:=hd;exact .d (p i u c hd j)
theorem qql {ops : Array Oper} {o : Oper} {c : Call} {f : FuncId} {g : List V} {v : V} {hp' : List (Nat × Blk)} {nx' : Nat} (k : Qr ops st o = some true) (j : o.op = .call c) (q : callee st c = some (f,g))
    (b : Jq P f g st.hp st.nx v hp' nx') : Js P base ops o st ({sl:=st.sl,hp:=hp',nx:=nx' : AS}.putD o.dst v):=by
  intro ro Q w Z inj a Ds K h hd hb _ m;unfold Ue;rw [q3k h k];simp only [if_true];refine ⟨fun _ _=>trivial,?_⟩;obtain ⟨xs,l,s⟩:=qd7 h j q b.1;rw [show (Fw ro).round = ro from rfl,Oper.semAt_eq ro _ o (by rintro u d;rw [j] at d;cases d),l,Oper.uponIn_enter];refine ⟨fun h=>by simp [Fw] at h,?_⟩;refine CallsIn.mono (b.2 w Z inj xs h.heap s) ?_;rintro e w' ⟨x,Z',inj',rfl,r,p,n,t⟩;exact m _ _ (q3t h hb p r t n hd)
theorem qiy {ops : Array Oper} {o : Oper} {c : Call} {f : FuncId} {vs : List V} {ds : List DV} {v : V} {hp' : List (Nat × Blk)} {nx' : Nat} {r' r : DV} (hg : Qr ops st o = some true) (ho : o.op = .call c) (hc : callee st c = some (f,vs))
    (z : Kv st.hp vs = some ds) (g : Jq P f (ds.map .d) [] 0 v hp' nx') (ab : toD hp' 8 v = some r') (aa : DLe r' r) (hs : vs.all V.isD = true∨r.scalar = true) : Js P base ops o st (st.putD o.dst (.d r)):=by
  intro ro Q w Z inj a Ds K h hd hb _ hK;unfold Ue;rw [q3k h hg];simp only [if_true];refine ⟨fun _ _=>trivial,?_⟩;obtain ⟨xs,hr,hl⟩:=qd7 h ho hc g.1;rw [show (Fw ro).round = ro from rfl,Oper.semAt_eq ro _ o (by rintro c' h';rw [ho] at h';cases h'),hr,Oper.uponIn_enter];refine ⟨fun h=>by simp [Fw] at h,?_⟩;have j : ∀ (i : Inj) b,¬ im ([] : List (Nat × Blk)) i b:=by rintro i b ⟨n,blk,o,l,_⟩;simp [find] at l
  have keep : ∀ {Z0 : Nat→Prop} {w' : World} {Z' : Nat→Prop} {inj' : Inj},Ext w Z0 inj [] w' Z' inj' hp' 0→∀ b,b < w.heap.size→w'.heap[b]? = w.heap[b]?:=fun e b hb=>e.keep b hb (j _ b)
  have back : ∀ {Z0 : Nat→Prop} {w' : World} {Z' : Nat→Prop} {inj' : Inj} (m : Nat→Prop),Ext w Z0 inj [] w' Z' inj' hp' 0→(∀ b,Z b→m b)→(∀ b,m b→Z b∨w.heap.size≤b)→(∀ b,m b→∃ c e f,w'.heap[b]? = some (.cells c e f))→
      RelH w' m inj st.hp st.nx∧Ext w Z inj st.hp w' m inj st.hp st.nx:=by
    intro Z0 w' Z' inj' m e u y t
    have hk:=keep e
    have hE : Ext w Z inj st.hp w' m inj st.hp st.nx:=⟨e.size,fun b hb _=>hk b hb,fun _ h=>.inl h,e.big,e.loops,u,fun b hb=>(y b hb).elim .inl (fun h=>.inr (.inr h)),fun _ _=>rfl,e.tape,e.os,e.output,e.frz⟩
    refine ⟨⟨fun n b hn=>?_,h.heap.sep,?_,?_,t⟩,hE⟩
    · obtain ⟨l,h2⟩:=h.heap.blk n b hn
      refine ⟨l,h2.mono (hE.zkeep h.heap) u e.big (fun _ _=>rfl) (Nat.le_refl _) l fun p hp ak=>hk _ (h.heap.im_lt ⟨n,b,p.2,hn,ak,hp⟩)⟩
    · intro n b p l h2 h3 hz
      rcases y _ hz with h4 | h4
      · exact h.heap.out n b p l h2 h3 h4
      · have:=h.heap.im_lt (b:=p.1) ⟨n,b,p.2,l,h2,h3⟩;omega
    · intro b hb
      obtain ⟨c,e',f',hc⟩:=t b hb
      exact Ja hc
  rcases hs with hs | hs
  ·
    have h0 : RelH w Z inj [] 0:=⟨fun _ _ h=>by simp [find] at h,fun _ _ _ _ _ _ h=>by simp [find] at h,fun _ _ _ h=>by simp [find] at h,h.heap.zs,h.heap.zc⟩
    refine CallsIn.mono (g.2 w Z inj xs h0 (qri z hs hl inj)) ?_;rintro e w' ⟨x,Z',inj',rfl,hh,k,hv,hn⟩;have hD:=(qa8 hh 8 ab hv).le aa
    obtain ⟨q,s⟩:=back (zAll w' Z' inj' hp') k (fun b hb=>.inl (k.zin b hb))
      (fun b hb=>by
        rcases hb with hb | ⟨hb,_⟩
        · rcases k.zout b hb with h | h | h
          · exact .inl h
          · exact absurd h (j _ _)
          · exact .inr h
        · rcases k.imm b hb with h | h
          · exact absurd h (j _ _)
          · exact .inr h)
      (fun b hb=>by
        rcases hb with hb | ⟨_,hb⟩
        · exact hh.zc b hb
        · exact hb)
    exact hK _ _ (q3t h hb s q (Nat.le_refl _) (.d hD) hd)
  ·
    have h0 : RelH w (zAll w Z inj st.hp) inj [] 0:=⟨fun _ _ h=>by simp [find] at h,fun _ _ _ _ _ _ h=>by simp [find] at h,fun _ _ _ h=>by simp [find] at h,
      fun b hb=>by
        rcases hb with hb | ⟨hb,_⟩
        · exact h.heap.zs b hb
        · exact h.heap.im_lt hb,
      fun b hb=>by
        rcases hb with hb | ⟨_,hb⟩
        · exact h.heap.zc b hb
        · exact hb⟩
    refine CallsIn.mono (g.2 w _ inj xs h0 (qrj h.heap z hl inj)) ?_;rintro e w' ⟨x,Z',inj',rfl,hh,k,hv,hn⟩;have hD:=(qa8 hh 8 ab hv).le aa;obtain ⟨q,s⟩:=back Z k (fun _ h=>h) (fun _ h=>.inl h) (fun b hb=>by rw [keep k b (h.heap.zs b hb)];exact h.heap.zc b hb);exact hK _ _ (q3t h hb s q (Nat.le_refl _) (.d (qv1 hD hs)) hd)
end
end Go.Am
namespace Go.Am
open Go
variable {P : Program} {T : Tab}
section
variable {st st1 st2 : AS} {v : V}
theorem Yu {α : Type} {x : Option α} {f : α→V} : (x.map fun a=>(f a,st)) = some (v,st1)→st1 = st∧(x.map fun a=>(f a,st2)) = some (v,st2):=by
  cases x <;> simp
  rintro rfl rfl;simp
theorem qdu {ev ev' : Operand→Option V} : ∀ {l : List (Nat × Operand)},(∀ x∈l.map (·.2),ev' x = ev x)→Jd ev' l = Jd ev l
  | [],_=>rfl
  | (i,o)::r,h=>by
    have b:=h o qe
    have c:=qdu (l:=r) (fun x a=>h x (by simp at a ⊢;exact .inr a))
    simp only [Jd,b,c]
theorem q4v {ev ev' : Operand→Option V} : ∀ {l : List Operand},(∀ x∈l,ev' x = ev x)→evL ev' l = evL ev l
  | [],_=>rfl
  | o::r,h=>by
    have b:=h o qe
    have c:=q4v (l:=r) (fun x a=>h x (by simp [a]))
    simp only [evL,b,c]
theorem qrf {i : TI} (a : st2.hp = st.hp) : U0 st2 i v = U0 st i v:=by
  cases v <;> simp only [U0,AS.blk,a]
theorem qny {b : Builtin} {c : Array TypeId} {a : List V} (h : Y9 T st b c a = some (v,st1)) (hb : b = .len∨b = .min∨b = .max) : st1 = st∧Y9 T st2 b c a = some (v,st2):=by
  rcases hb with rfl | rfl | rfl
  · rcases a with _ | ⟨x,_ | ⟨y,r⟩⟩
    · simp [Y9] at h
    · simp only [Y9] at h ⊢;revert h;split
      · split
        · split
          · simp;rintro rfl rfl;simp
          · split <;> simp
            all_goals rintro rfl rfl;simp
          · split <;> simp
            all_goals rintro rfl rfl;simp
          · simp
        · simp
      · simp
    · simp [Y9] at h
  · rcases a with _ | ⟨x,r⟩
    · simp [Y9] at h
    · simp only [Y9] at h ⊢;revert h;exact Yu
  · rcases a with _ | ⟨x,r⟩
    · simp [Y9] at h
    · simp only [Y9] at h ⊢;revert h;exact Yu
theorem qf8 {op : Op} (h : opFn T st op = some (v,st1)) (q : touch op≤1) (r : touch op≠0→st2.hp = st.hp) (a : ∀ x∈op.operands,st2.ev x = st.ev x) : st1 = st∧opFn T st2 op = some (v,st2):=by
  cases op <;> simp only [opFn,reduceCtorEq] at h <;> simp only [touch,Nat.reduceLeDiff] at q
  case move x=>
    simp only [opFn,a x (by simp [Op.operands])] at h ⊢;revert h;exact Yu
  case assign x=>
    simp only [opFn,a x (by simp [Op.operands])] at h ⊢;revert h;exact Yu
  case pick c x y=>
    simp only [opFn,a c (by simp [Op.operands]),a x (by simp [Op.operands]),a y (by simp [Op.operands])] at h ⊢;revert h;split
    · exact Yu
    · exact Yu
    · simp
  case load t p=>
    simp only [opFn,a p (by simp [Op.operands])] at h ⊢;revert h;split
    · rw [qrf (r (by simp [touch]))];exact Yu
    · simp
  case lookup t x k ok=>
    have hb : ∀ n,st2.blk n = st.blk n:=fun n=>by simp only [AS.blk,r (by simp [touch])]
    simp only [opFn,a x (by simp [Op.operands]),a k (by simp [Op.operands]),hb] at h ⊢;revert h;split
    · split
      · split
        · simp only [Y3];rintro ⟨e,w,j⟩;cases j;exact ⟨rfl,e,w,rfl⟩
        · simp
      · simp
    · simp
  case build t ps=>
    have:=qdu (ev:=st.ev) (ev':=st2.ev) (l:=ps.toList) (fun x g=>a x (by simpa [Op.operands] using g));simp only [opFn,this] at h ⊢;revert h;split
    · split
      · split
        · exact Yu
        · simp
      · simp
    · simp
  case binOp op t x y u=>
    simp only [opFn,a x (by simp [Op.operands]),a y (by simp [Op.operands])] at h ⊢;revert h;split
    · split
      · split
        · split <;> simp
          · rintro rfl rfl;simp
          · rintro rfl rfl;simp
        · simp
      · simp
    · exact Yu
    · split
      · exact Yu
      · simp
    · simp
  case unOp op t x=>
    simp only [opFn,a x (by simp [Op.operands])] at h ⊢;revert h;split
    · exact Yu
    · simp
  case convert s d x=>
    simp only [opFn,a x (by simp [Op.operands])] at h ⊢;revert h;split
    · split <;> simp
      rintro rfl rfl;simp
    · simp
  case makeFunc fn first caps=>
    cases fn <;> simp only [reduceCtorEq,opFn] at h ⊢
    have:=q4v (ev:=st.ev) (ev':=st2.ev) (l:=caps.toList) (fun x g=>a x (by simp [Op.operands] at g ⊢;exact .inr g));have j:=q4v (ev:=st.ev) (ev':=st2.ev) (l:=first.toList) (fun x g=>a x (by simp [Op.operands] at g ⊢;exact .inl g));rw [this,j];revert h;split
    · exact Yu
    · split
      · exact Yu
      · simp
  case slice t x lo hi mx=>
    have hb : ∀ (d : Nat) (o : Option Operand),(o = lo∨o = hi)→bound st2 d o = bound st d o:=by
      rintro d o z
      cases o with
      | none=>rfl
      | some o=>
        simp only [bound];rw [a o (by rcases z with rfl | rfl <;> simp [Op.operands])]
    simp only [opFn,a x (by simp [Op.operands])] at h ⊢;revert h;split
    · split
      · split
        · rename_i n _;rw [hb 0 lo (.inl rfl),hb n hi (.inr rfl)];split
          · exact Yu
          · simp
        · simp
      · simp
    · simp
  case fieldAddr s p f=>
    simp only [opFn,a p (by simp [Op.operands])] at h ⊢;revert h;split
    · split
      · exact Yu
      · simp
    · simp
  case field s x f=>
    simp only [opFn,a x (by simp [Op.operands])] at h ⊢;revert h;split
    · split
      · split
        · exact Yu
        · simp
      · simp
    · simp
  case indexAddr t x ix=>
    simp only [opFn,a x (by simp [Op.operands]),a ix (by simp [Op.operands])] at h ⊢;revert h;split
    · exact Yu
    · simp
  case index t x ix=>
    simp only [opFn,a x (by simp [Op.operands]),a ix (by simp [Op.operands])] at h ⊢;revert h;split
    · split
      · split
        · split
          · exact Yu
          · simp
        · simp
      · split
        · exact Yu
        · simp
      · simp
    · simp
  case extract x k=>
    simp only [opFn,a x (by simp [Op.operands])] at h ⊢;revert h;split
    · exact Yu
    · exact Yu
    · simp
  case nilCheck x=>
    simp only [opFn,a x (by simp [Op.operands])] at h ⊢;revert h;split <;> simp
    all_goals rintro rfl rfl;simp
  case call c=>
    obtain ⟨m,args,argTypes⟩:=c;cases m <;> simp only [reduceCtorEq] at h
    rename_i b;have:=q4v (ev:=st.ev) (ev':=st2.ev) (l:=args.toList) (fun x g=>a x (by simpa [Op.operands,Call.operands] using g));simp only [opFn,this] at h ⊢;revert h;split
    · have hb : b = .len∨b = .min∨b = .max:=by
        revert q;cases b <;> simp
      intro h;exact qny h hb
    · simp
end
end Go.Am
namespace Go.Am
open Go
variable {P : Program} {T : Tab}
def qcr (x : Fp) (st st2 : AS) : Prop:=(∀ m∈x.2,find st2.hp m = find st.hp m)∧match x.1 with
  | none=>∀ m,find st2.hp m = find st.hp m
  | some r=>∀ m∈r,find st2.hp m = find st.hp m
inductive Out (T : Tab) (st : AS) (op : Op) (v : V) (st1 : AS) : Prop
  | calm : st1.sl = st.sl→st1.nx = st.nx→(∀ m,m ∉ (fp st op).2→find st1.hp m = find st.hp m)→(∀ m,find st.hp m = none→find st1.hp m = none)→
      (∀ st2,(∀ x∈op.operands,st2.ev x = st.ev x)→qcr (fp st op) st st2→∃ hp3,opFn T st2 op = some (v,⟨st2.sl,hp3,st2.nx⟩)∧(∀ m∈(fp st op).2,find hp3 m = find st1.hp m)∧(∀ m,m ∉ (fp st op).2→find hp3 m = find st2.hp m))→Out T st op v st1
  | new (mk : Nat→V) (b : Blk) (hp1 : List (Nat × Blk)) : ((∃ es,mk = fun n=>.ref n es 0 0)∨(∃ es l,mk = fun n=>.hs n es 0 l)∨(mk = fun n=>.mp n))→v = mk st.nx→st1 = ⟨st.sl,(st.nx,b)::hp1,st.nx + 1⟩→st.nx∈(fp st op).2→
      (∀ m,m ∉ (fp st op).2→find hp1 m = find st.hp m)→(∀ m,find st.hp m = none→find hp1 m = none)→
      (∀ st2,(∀ x∈op.operands,st2.ev x = st.ev x)→qcr (fp st op) st st2→∃ hp3,opFn T st2 op = some (mk st2.nx,⟨st2.sl,(st2.nx,b)::hp3,st2.nx + 1⟩)∧(∀ m∈(fp st op).2,find hp3 m = find hp1 m)∧(∀ m,m ∉ (fp st op).2→find hp3 m = find st2.hp m)∧(∀ m c,find hp3 m = some c→c = .dead∨find st2.hp m = some c))→Out T st op v st1
section
variable {st st1 st2 : AS} {v : V}
theorem qrg {i : TI} {p : V} (b : ∀ m∈K8 p,find st2.hp m = find st.hp m) : U0 st2 i p = U0 st i p:=by
  cases p with
  | ref n es a j=>
    have : st2.blk n = st.blk n:=b n (by simp [K8]);simp only [U0,this]
  | d x=>cases x <;> rfl
  | _=>rfl
theorem qhh {x : V} (a : ∀ m∈K8 x,find st2.hp m = find st.hp m) : Zd st2 x = Zd st x:=by
  cases x with
  | hs n es o l=>
    have : st2.blk n = st.blk n:=a n (by simp [K8]);simp only [Zd,this]
  | d x=>cases x <;> rfl
  | _=>rfl
theorem qdn {x : V} (a : ∀ m∈K8 x,find st2.hp m = find st.hp m) : Yx st2 x = Yx st x:=by
  cases x with
  | hs n es o l=>
    have : st2.blk n = st.blk n:=a n (by simp [K8]);simp only [Yx,this]
  | d x=>cases x <;> rfl
  | _=>rfl
theorem Jz {α : Type} {l : List (Nat × α)} {k t : Nat} {x : α} (h : k≠t) : find (repl l k x) t = find l t:=by rw [Za,qx h]
theorem q4y {α : Type} {l : List (Nat × α)} {k t : Nat} {x : α} (h : find l t = none) : find (repl l k x) t = none:=by
  rw [Za];split
  · rename_i e;subst e;rw [h];rfl
  · exact h
theorem q4x {l a : List (Nat × Blk)} {k t : Nat} {x : Blk} (h : find a t = find l t) : find (repl a k x) t = find (repl l k x) t:=by
  rw [Za,Za];split
  · rename_i e;subst e;rw [h]
  · exact h
theorem qus {l : List (Nat × Blk)} {k m : Nat} {c : Blk} (h : find (repl l k .dead) m = some c) : c = .dead∨find l m = some c:=by
  rw [Za] at h;split at h
  · cases a : find l k with
    | none=>rw [a] at h;cases h
    | some b=>rw [a] at h;cases h;exact .inl rfl
  · exact .inr h
theorem q10x {i : TI} {p y : V} (h : Jn st i p y = some st1) : ∃ n b,K8 p = [n]∧st1 = ⟨st.sl,repl st.hp n b,st.nx⟩∧∀ st2 : AS,find st2.hp n = find st.hp n→Jn st2 i p y = some ⟨st2.sl,repl st2.hp n b,st2.nx⟩:=by
  cases p with
  | ref n k a j=>
    simp only [Jn] at h;split at h
    · cases h
    · rename_i l;have key : ∀ b : Blk,∀ st2 : AS,st2.setBlk n b = ⟨st2.sl,repl st2.hp n b,st2.nx⟩:=fun _ _=>rfl;split at h
      · rename_i es xs hb;split at h
        · rename_i cs g f;split at h
          · rename_i c;split at h
            · rename_i ds hd;cases h;refine ⟨n,_,rfl,key _ _,fun st2 e=>?_⟩;have d : st2.blk n = st.blk n:=e;simp only [Jn,qx l,d,hb,g,f,qs c,hd];rfl
            · rename_i hd;cases h;refine ⟨n,_,rfl,key _ _,fun st2 e=>?_⟩;have d : st2.blk n = st.blk n:=e;simp only [Jn,qx l,d,hb,g,f,qs c,hd];rfl
          · cases h
        · cases h
      · rename_i es xs hb;split at h
        · rename_i cs g f;split at h
          · rename_i c;cases h;refine ⟨n,_,rfl,key _ _,fun st2 e=>?_⟩;have d : st2.blk n = st.blk n:=e;simp only [Jn,qx l,d,hb,g,f,qs c];rfl
          · cases h
        · cases h
      · cases h
  | _=>simp [Jn] at h
theorem qpb {p y : V} (h : copyV st p y = some (v,st1)) : ∃ n b,K8 p = [n]∧st1 = ⟨st.sl,repl st.hp n b,st.nx⟩∧∀ st2 : AS,find st2.hp n = find st.hp n→(∀ m∈K8 y,find st2.hp m = find st.hp m)→copyV st2 p y = some (v,⟨st2.sl,repl st2.hp n b,st2.nx⟩):=by
  cases p with
  | hs n es o l=>
    simp only [copyV] at h;split at h
    · rename_i k xs ys hb c;split at h
      · rename_i f;cases h;refine ⟨n,_,rfl,rfl,fun st2 e a=>?_⟩;have d : st2.blk n = st.blk n:=e;simp only [copyV,d,hb,qdn a,c,qs f];rfl
      · cases h
    · cases h
  | _=>simp [copyV] at h
theorem qoy {i : TI} {p : V} (h : Jy st i p = some (v,st1)) : (st1 = st∧∀ st2 : AS,Jy st2 i p = some (v,st2))∨
    ∃ n b,K8 p = [n]∧st1 = ⟨st.sl,repl st.hp n b,st.nx⟩∧∀ st2 : AS,find st2.hp n = find st.hp n→Jy st2 i p = some (v,⟨st2.sl,repl st2.hp n b,st2.nx⟩):=by
  cases p with
  | d x=>
    cases x <;> simp only [Jy,reduceCtorEq,Option.some.injEq,Prod.mk.injEq] at h
    obtain ⟨rfl,rfl⟩:=h;exact .inl ⟨rfl,fun st2=>rfl⟩
  | hs n es o l=>
    right;simp only [Jy] at h;split at h
    · rename_i k xs hb;split at h
      · rename_i c;cases h;refine ⟨n,_,rfl,rfl,fun st2 e=>?_⟩;have a : st2.blk n = st.blk n:=e;simp only [Jy,a,hb,qs c];rfl
      · cases h
    · cases h
  | _=>simp [Jy] at h
theorem qnj {i : TI} {p y : V} (h : Z9 st i p y = some (v,st1)) :
    (st1 = st∧∀ st2 : AS,(∀ m∈K8 p ++ K8 y,find st2.hp m = find st.hp m)→Z9 st2 i p y = some (v,st2))∨
    (∃ es l b hp1,v = .hs st.nx es 0 l∧st1 = ⟨st.sl,(st.nx,b)::hp1,st.nx + 1⟩∧((hp1 = st.hp∧∀ st2 : AS,(∀ m∈K8 p ++ K8 y,find st2.hp m = find st.hp m)→Z9 st2 i p y = some (.hs st2.nx es 0 l,⟨st2.sl,(st2.nx,b)::st2.hp,st2.nx + 1⟩))∨
      (∃ n,n∈K8 p∧hp1 = repl st.hp n .dead∧∀ st2 : AS,(∀ m∈K8 p ++ K8 y,find st2.hp m = find st.hp m)→Z9 st2 i p y = some (.hs st2.nx es 0 l,⟨st2.sl,(st2.nx,b)::repl st2.hp n .dead,st2.nx + 1⟩)))):=by
  cases p with
  | d x=>
    cases x <;> simp only [Z9,reduceCtorEq] at h
    have c : ∀ st2 : AS,(∀ m∈K8 (.d .nilsl) ++ K8 y,find st2.hp m = find st.hp m)→Yx st2 y = Yx st y∧Zd st2 y = Zd st y:=fun st2 e=>
      ⟨qdn fun m j=>e m (by simp [j]),qhh fun m j=>e m (by simp [j])⟩
    split at h
    · rename_i ys hd;split at h
      · rename_i a;split at h
        · rename_i g;cases h;refine .inl ⟨rfl,fun st2 e=>?_⟩;simp only [Z9,(c st2 e).1,hd,qs a,qs g]
        · rename_i g;cases h;refine .inr ⟨_,_,_,_,rfl,rfl,.inl ⟨rfl,fun st2 e=>?_⟩⟩;simp only [Z9,(c st2 e).1,hd,qs a,qx g];rfl
      · cases h
    · rename_i hd;split at h
      · rename_i ys f;split at h
        · rename_i a;split at h
          · rename_i g;cases h;refine .inl ⟨rfl,fun st2 e=>?_⟩;simp only [Z9,(c st2 e).1,(c st2 e).2,hd,f,qs a,qs g]
          · rename_i g;cases h;refine .inr ⟨_,_,_,_,rfl,rfl,.inl ⟨rfl,fun st2 e=>?_⟩⟩;simp only [Z9,(c st2 e).1,(c st2 e).2,hd,f,qs a,qx g];rfl
        · cases h
      · cases h
  | hs n es o l=>
    have c : ∀ st2 : AS,(∀ m∈K8 (.hs n es o l) ++ K8 y,find st2.hp m = find st.hp m)→Yx st2 y = Yx st y∧Zd st2 y = Zd st y∧st2.blk n = st.blk n:=fun st2 e=>
      ⟨qdn fun m j=>e m (by simp [j]),qhh fun m j=>e m (by simp [j]),e n (by simp [K8])⟩
    simp only [Z9] at h;split at h
    · rename_i k xs ys hb hd;split at h
      · rename_i f;cases h;refine .inr ⟨_,_,_,_,rfl,rfl,.inr ⟨n,by simp [K8],rfl,fun st2 e=>?_⟩⟩;obtain ⟨s,_,r⟩:=c st2 e;simp only [Z9,s,r,hb,hd,qs f];rfl
      · cases h
    · rename_i k xs hb hd;split at h
      · rename_i ys q;split at h
        · rename_i f;cases h;refine .inr ⟨_,_,_,_,rfl,rfl,.inr ⟨n,by simp [K8],rfl,fun st2 e=>?_⟩⟩;obtain ⟨s,t,r⟩:=c st2 e;simp only [Z9,s,t,r,hb,hd,q,qs f];rfl
        · cases h
      · cases h
    · rename_i k xs hb;split at h
      · rename_i ys q;split at h
        · rename_i f;cases h;refine .inr ⟨_,_,_,_,rfl,rfl,.inr ⟨n,by simp [K8],rfl,fun st2 e=>?_⟩⟩;obtain ⟨s,t,r⟩:=c st2 e;simp only [Z9,s,t,r,hb,q,qs f];rfl
        · cases h
      · cases h
    · cases h
  | _=>simp [Z9] at h
theorem qbf {op : Op} (h : opFn T st op = some (v,st1)) (a : touch op = 0) : Out T st op v st1:=by
  have b:=(qf8 (st2:=st) h q0 (fun e=>absurd a e) (fun _ _=>rfl)).1;subst b;refine .calm rfl rfl (fun _ _=>rfl) (fun _ h=>h) fun st2 f g=>?_;have d:=(qf8 (st2:=st2) h q0 (fun e=>absurd a e) f).2;exact ⟨st2.hp,d,fun m c=>g.1 m c,fun _ _=>rfl⟩
theorem qtc {t : TypeId} {p : Operand} (h : opFn T st (.load t p) = some (v,st1)) : Out T st (.load t p) v st1:=by
  simp only [opFn] at h
  cases b : T t with
  | none=>simp [b] at h
  | some i=>
    cases hp : st.ev p with
    | none=>simp [b,hp] at h
    | some x=>
      simp only [b,hp] at h;obtain ⟨rfl,g⟩:=Yu (st2:=st) h;have a : fp st1 (.load t p) = (some (K8 x),[]):=by simp only [fp,hp]
      refine .calm rfl rfl (fun _ _=>rfl) (fun _ h=>h) fun st2 f d=>?_;rw [a] at d;refine ⟨st2.hp,?_,fun m c=>by rw [a] at c;simp at c,fun _ _=>rfl⟩;simp only [opFn,b,f p (by simp [Op.operands]),hp,qrg (st:=st1) (st2:=st2) d.2];simp_all
theorem q87 {op : Op} {mk : Nat→V} {b : Blk} (k : (∃ es,mk = fun n=>.ref n es 0 0)∨(∃ es l,mk = fun n=>.hs n es 0 l)∨(mk = fun n=>.mp n)) (o : v = mk st.nx) (a : st1 = st.new b) (j : fp st op = (some [],[st.nx]))
    (g : ∀ st2 : AS,(∀ x∈op.operands,st2.ev x = st.ev x)→opFn T st2 op = some (mk st2.nx,st2.new b)) : Out T st op v st1:=by
  refine .new mk b st.hp k o a (by rw [j];simp) (fun _ _=>rfl) (fun _ h=>h) fun st2 p f=>⟨st2.hp,g st2 p,fun m d=>f.1 m d,fun _ _=>rfl,fun m c q=>.inr q⟩
theorem qtf {t : TypeId} {p x : Operand} (h : opFn T st (.store t p x) = some (v,st1)) : Out T st (.store t p x) v st1:=by
  simp only [opFn] at h
  cases f : T t with
  | none=>simp [f] at h
  | some i=>
    cases hp : st.ev p with
    | none=>simp [f,hp] at h
    | some pv=>
      cases g : st.ev x with
      | none=>simp [f,hp,g] at h
      | some xv=>
        simp only [f,hp,g] at h
        cases hs : Jn st i pv xv with
        | none=>simp [hs] at h
        | some r=>
          simp only [hs,Option.map_some,Option.some.injEq,Prod.mk.injEq] at h;obtain ⟨rfl,rfl⟩:=h;obtain ⟨n,b,l,rfl,c⟩:=q10x hs;have d : fp st (.store t p x) = (some [n],[n]):=by simp only [fp,hp,l]
          refine .calm rfl rfl (fun m a=>?_) (fun m a=>q4y a) fun st2 k j=>?_
          · rw [d] at a;exact Jz (by simp at a;omega)
          · rw [d] at j ⊢;refine ⟨repl st2.hp n b,?_,fun m a=>q4x (j.1 m a),fun m a=>Jz (by simp at a;omega)⟩;simp only [opFn,f,k p (by simp [Op.operands]),k x (by simp [Op.operands]),hp,g,c st2 (j.1 n qe),Option.map_some]
theorem qq8 {args : Array Operand} {ats : Array TypeId} {s x : V} (h : evL st.ev args.toList = some [s,x]) : fp st (.call {callee:=.builtin .append,args:=args,argTypes:=ats}) = (some (K8 s ++ K8 x),st.nx::K8 s):=by
  simp only [fp,h]
theorem qqa {args : Array Operand} {ats : Array TypeId} {s x : V} (h : evL st.ev args.toList = some [s,x]) : fp st (.call {callee:=.builtin .copy,args:=args,argTypes:=ats}) = (some (K8 s ++ K8 x),K8 s):=by
  simp only [fp,h]
theorem qq9 {args : Array Operand} {ats : Array TypeId} {x : V} (h : evL st.ev args.toList = some [x]) : fp st (.call {callee:=.builtin .clear,args:=args,argTypes:=ats}) = (some (K8 x),K8 x):=by
  simp only [fp,h]
theorem qqb {args : Array Operand} {ats : Array TypeId} {m k : V} (h : evL st.ev args.toList = some [m,k]) : fp st (.call {callee:=.builtin .delete,args:=args,argTypes:=ats}) = (some (K8 m),K8 m):=by
  simp only [fp,h]
theorem qtd {t : TypeId} {x k : Operand} {ok : Bool} (h : opFn T st (.lookup t x k ok) = some (v,st1)) : Out T st (.lookup t x k ok) v st1:=by
  have w:=h;simp only [opFn] at h;split at h <;> try simp only [reduceCtorEq] at h
  rename_i i n j r c l;split at h <;> try simp only [reduceCtorEq] at h
  rename_i ks es z q o p;split at h <;> try simp only [reduceCtorEq] at h
  rename_i u
  cases b : mget i.eagg ks z j es with
  | none=>rw [b] at h;simp at h
  | some e=>
    rw [b] at h;simp only [Option.map_some,Option.some.injEq,Prod.mk.injEq] at h;obtain ⟨rfl,rfl⟩:=h;have a : fp st (.lookup t x k ok) = (some [n],[]):=by simp only [fp,c];rfl
    refine .calm rfl rfl (fun _ _=>rfl) (fun _ h=>h) fun st2 d f=>?_;rw [a] at f;have s : st2.blk n = st.blk n:=f.2 n qe;refine ⟨st2.hp,?_,fun m g=>by rw [a] at g;simp at g,fun _ _=>rfl⟩;simp only [opFn,r,d x (by simp [Op.operands]),d k (by simp [Op.operands]),c,l,q,s,o,p,qs u,b,Option.map_some]
theorem qte {t : TypeId} {m k x : Operand} (h : opFn T st (.mapUpdate t m k x) = some (v,st1)) : Out T st (.mapUpdate t m k x) v st1:=by
  simp only [opFn] at h;split at h <;> try simp only [reduceCtorEq] at h
  rename_i i n o l s j p g;split at h <;> try simp only [reduceCtorEq] at h
  rename_i ks es r q;split at h <;> try simp only [reduceCtorEq] at h
  rename_i w
  cases c : mput i.eagg ks o l es with
  | none=>rw [c] at h;simp at h
  | some es'=>
    rw [c] at h;simp only [Option.map_some,Option.some.injEq,Prod.mk.injEq] at h;obtain ⟨rfl,rfl⟩:=h;have b : fp st (.mapUpdate t m k x) = (some [n],[n]):=by simp only [fp,j];rfl
    refine .calm rfl rfl (fun m a=>?_) (fun m a=>q4y a) fun st2 d f=>?_
    · rw [b] at a;exact Jz (by simp at a;omega)
    · rw [b] at f ⊢;have u : st2.blk n = st.blk n:=f.1 n qe;refine ⟨repl st2.hp n (.mp es'),?_,fun m a=>q4x (f.1 m a),fun m a=>Jz (by simp at a;omega)⟩;simp only [opFn,s,d m (by simp [Op.operands]),d k (by simp [Op.operands]),d x (by simp [Op.operands]),j,p,g,r,u,q,qs w,c,Option.map_some];rfl
theorem qtb {b : Builtin} {args : Array Operand} {ats : Array TypeId} (h : opFn T st (.call {callee:=.builtin b,args:=args,argTypes:=ats}) = some (v,st1)) : Out T st (.call {callee:=.builtin b,args:=args,argTypes:=ats}) v st1:=by
  have h0:=h;simp only [opFn] at h
  cases y : evL st.ev args.toList with
  | none=>simp [y] at h
  | some vs=>
    simp only [y] at h
    have r : ∀ st2 : AS,(∀ x∈(Op.call {callee:=.builtin b,args:=args,argTypes:=ats}).operands,st2.ev x = st.ev x)→evL st2.ev args.toList = some vs:=fun st2 g=>by
      rw [q4v fun x hx=>g x (by simpa [Op.operands,Call.operands] using hx)];exact y
    cases b
    case append=>
      match vs,h with
      | [s,x],h=>
        have o:=qq8 (ats:=ats) y;simp only [Y9] at h;split at h
        · rename_i t u z e2;split at h
          · rename_i i j e3 e4;split at h
            · rename_i q
              have p : ∀ st2 : AS,(∀ x∈(Op.call {callee:=.builtin .append,args:=args,argTypes:=ats}).operands,st2.ev x = st.ev x)→opFn T st2 (.call {callee:=.builtin .append,args:=args,argTypes:=ats}) = Z9 st2 i s x:=fun st2 g=>by
                simp only [opFn,r st2 g,Y9,z,e2,e3,e4,qs q]
              rcases qnj h with ⟨rfl,d⟩ | ⟨es,l,b,hp1,rfl,rfl,⟨rfl,d⟩ | ⟨n,w,rfl,d⟩⟩
              · refine .calm rfl rfl (fun _ _=>rfl) (fun _ h=>h) fun st2 g f=>?_;rw [o] at f;exact ⟨st2.hp,(p st2 g).trans (d st2 f.2),fun m a=>f.1 m (by rw [o] at a;exact a),fun _ _=>rfl⟩
              · refine .new (fun n=>.hs n es 0 l) b _ (.inr (.inl ⟨_,_,rfl⟩)) rfl rfl (by rw [o];simp) (fun _ _=>rfl) (fun _ h=>h) fun st2 g f=>?_;rw [o] at f;exact ⟨st2.hp,(p st2 g).trans (d st2 f.2),fun m a=>f.1 m (by rw [o] at a;exact a),fun _ _=>rfl,fun m c q=>.inr q⟩
              · have ad : ∀ m,m ∉ (fp st (.call {callee:=.builtin .append,args:=args,argTypes:=ats})).2→n≠m:=fun m a e=>by
                  rw [o] at a;exact a (by rw [← e];simp [w])
                refine .new (fun n=>.hs n es 0 l) b _ (.inr (.inl ⟨_,_,rfl⟩)) rfl rfl (by rw [o];simp) (fun m a=>Jz (ad m a)) (fun m a=>q4y a) fun st2 g f=>?_;rw [o] at f;exact ⟨repl st2.hp n .dead,(p st2 g).trans (d st2 f.2),fun m a=>q4x (f.1 m (by rw [o] at a;exact a)),fun m a=>Jz (ad m a),fun m c q=>qus q⟩
            · cases h
          · cases h
        · cases h
    case copy=>
      match vs,h with
      | [s,x],h=>
        have o:=qqa (ats:=ats) y;simp only [Y9] at h;split at h
        · rename_i t u z e2;split at h
          · rename_i i j e3 e4;split at h
            · rename_i q
              have p : ∀ st2 : AS,(∀ x∈(Op.call {callee:=.builtin .copy,args:=args,argTypes:=ats}).operands,st2.ev x = st.ev x)→opFn T st2 (.call {callee:=.builtin .copy,args:=args,argTypes:=ats}) = copyV st2 s x:=fun st2 g=>by
                simp only [opFn,r st2 g,Y9,z,e2,e3,e4,qs q]
              obtain ⟨n,b,w,rfl,d⟩:=qpb h;refine .calm rfl rfl (fun m a=>?_) (fun m a=>q4y a) fun st2 g f=>?_
              · rw [o,w] at a;exact Jz (by simp at a;omega)
              · rw [o] at f ⊢;refine ⟨repl st2.hp n b,(p st2 g).trans (d st2 (f.1 n (by simp [w])) fun m a=>f.2 m (by simp [a])),fun m a=>q4x (f.1 m a),fun m a=>Jz (by rw [w] at a;simp at a;omega)⟩
            · cases h
          · cases h
        · cases h
    case clear=>
      match vs,h with
      | [x],h=>
        have o:=qq9 (ats:=ats) y;simp only [Y9] at h;split at h
        · rename_i t z;split at h
          · rename_i i e3;split at h
            · rename_i q
              have p : ∀ st2 : AS,(∀ x∈(Op.call {callee:=.builtin .clear,args:=args,argTypes:=ats}).operands,st2.ev x = st.ev x)→opFn T st2 (.call {callee:=.builtin .clear,args:=args,argTypes:=ats}) = Jy st2 i x:=fun st2 g=>by
                simp only [opFn,r st2 g,Y9,z,e3,qs q]
              rcases qoy h with ⟨rfl,d⟩ | ⟨n,b,w,rfl,d⟩
              · refine .calm rfl rfl (fun _ _=>rfl) (fun _ h=>h) fun st2 g f=>?_;rw [o] at f;exact ⟨st2.hp,(p st2 g).trans (d st2),fun m a=>f.1 m (by rw [o] at a;exact a),fun _ _=>rfl⟩
              · refine .calm rfl rfl (fun m a=>?_) (fun m a=>q4y a) fun st2 g f=>?_
                · rw [o,w] at a;exact Jz (by simp at a;omega)
                · rw [o] at f ⊢;refine ⟨repl st2.hp n b,(p st2 g).trans (d st2 (f.1 n (by simp [w]))),fun m a=>q4x (f.1 m a),fun m a=>Jz (by rw [w] at a;simp at a;omega)⟩
            · cases h
          · cases h
        · cases h
    case delete=>
      match vs,h with
      | [m,k],h=>
        have o:=qqb (ats:=ats) y;simp only [Y9] at h;split at h <;> try simp only [reduceCtorEq] at h
        rename_i t n kd z;split at h <;> try simp only [reduceCtorEq] at h
        rename_i i es e2 e3;split at h <;> try simp only [reduceCtorEq] at h
        rename_i ks e4;split at h <;> try simp only [reduceCtorEq] at h
        rename_i e5
        cases hg : mdel i.eagg ks kd es with
        | none=>rw [hg] at h;simp at h
        | some es'=>
          rw [hg] at h;simp only [Option.map_some,Option.some.injEq,Prod.mk.injEq] at h;obtain ⟨rfl,rfl⟩:=h;refine .calm rfl rfl (fun m a=>?_) (fun m a=>q4y a) fun st2 g f=>?_
          · rw [o] at a;exact Jz (by simp [K8] at a;omega)
          · rw [o] at f ⊢;have e' : st2.blk n = st.blk n:=f.1 n (by simp [K8]);refine ⟨repl st2.hp n (.mp es'),?_,fun m a=>q4x (f.1 m a),fun m a=>Jz (by simp [K8] at a;omega)⟩;simp only [opFn,r st2 g,Y9,z,e2,e',e3,e4,qs e5,hg,Option.map_some];rfl
    case len=>exact qbf h0 rfl
    case min=>exact qbf h0 rfl
    case max=>exact qbf h0 rfl
    all_goals simp [Y9] at h
theorem qke {op : Op} (h : opFn T st op = some (v,st1)) : Out T st op v st1:=by
  cases op
  case load t p=>exact qtc h
  case store t p x=>exact qtf h
  case call c=>
    obtain ⟨s,args,ats⟩:=c
    cases s with
    | builtin b=>exact qtb h
    | value f=>simp [opFn] at h
    | invoke r n=>simp [opFn] at h
  case alloc t=>
    simp only [opFn] at h
    cases a : T t with
    | none=>simp [a] at h
    | some i=>
      simp only [a,Option.map_some,Option.some.injEq,Prod.mk.injEq] at h;obtain ⟨rfl,rfl⟩:=h;exact q87 (mk:=fun n=>.ref n i.size 0 0) (.inl ⟨_,rfl⟩) rfl rfl rfl fun st2 _=>by simp only [opFn,a];rfl
  case box t x=>
    simp only [opFn] at h
    cases a : T t with
    | none=>simp [a] at h
    | some i=>
      cases g : st.ev x with
      | none=>simp [a,g] at h
      | some xv=>
        simp only [a,g] at h;split at h
        · rename_i o;simp only [Option.some.injEq,Prod.mk.injEq] at h;obtain ⟨rfl,rfl⟩:=h;exact q87 (mk:=fun n=>.ref n i.size 0 0) (.inl ⟨_,rfl⟩) rfl rfl rfl fun st2 j=>by simp only [opFn,a,j x (by simp [Op.operands]),g,qs o]
        · cases h
  case buildSlice t len ps=>
    simp only [opFn] at h
    cases a : T t with
    | none=>simp [a] at h
    | some i=>
      cases g : Jd st.ev ps.toList with
      | none=>simp [a,g] at h
      | some vs=>
        simp only [a,g] at h;split at h
        · rename_i l hl;split at h
          · rename_i o
            cases u : q3f (List.replicate len (i.ezero.map .d)) l with
            | none=>simp [u] at h
            | some xs=>
              simp only [u,Option.map_some,Option.some.injEq,Prod.mk.injEq] at h;obtain ⟨rfl,rfl⟩:=h
              exact q87 (mk:=fun n=>.hs n i.esize 0 len) (.inr (.inl ⟨_,_,rfl⟩)) rfl rfl rfl fun st2 j=>by
                have e:=qdu (ev:=st.ev) (ev':=st2.ev) (l:=ps.toList) (fun x g=>j x (by simpa [Op.operands] using g));simp only [opFn,a,e,g,hl,qs o,u,Option.map_some]
          · cases h
        · cases h
  case makeSlice t l c=>
    have z:=h;simp only [opFn] at h;split at h
    · rename_i i k n k' m w y e3;split at h
      · rename_i o;simp only [Option.some.injEq,Prod.mk.injEq] at h;obtain ⟨rfl,rfl⟩:=h
        exact q87 (mk:=fun q=>.hs q i.esize 0 n.toNat) (.inr (.inl ⟨_,_,rfl⟩)) rfl rfl rfl fun st2 j=>by
          simp only [opFn,w,j l (by simp [Op.operands]),j c (by simp [Op.operands]),y,e3,qs o]
      · cases h
    · cases h
  case lookup=>exact qtd h
  case mapUpdate=>exact qte h
  case makeMap t r=>
    have z:=h;simp only [opFn] at h;split at h <;> try simp only [reduceCtorEq] at h
    rename_i i w;split at h <;> try simp only [reduceCtorEq] at h
    rename_i hk;simp only [Option.some.injEq,Prod.mk.injEq] at h;obtain ⟨rfl,rfl⟩:=h;exact q87 (mk:=fun n=>.mp n) (.inr (.inr rfl)) rfl rfl rfl fun st2 _=>by simp only [opFn,w,qs hk]
  all_goals first | exact qbf h rfl | (simp [opFn] at h;done)
end
end Go.Am
