/- Am17 Am18 Am19 Am20 Am21 Am22 Am22b -/
import Derived.Test.YtiejlbckgihckaaGreatK3
import Derived.RangeFuncRecord
import Derived.RangeFuncNested
import Derived.OrdersIn
import Derived.RangeFuncCalls
namespace Go.Am
open Go
variable {P : Program} {T : Tab}
section
variable {w : World} {Z : Nat→Prop} {inj : Inj} {st : AS} {a : Act} {Ds : List Nat}
theorem qub {c : Bool} {v b : V} {r : List V} {u : V} (h : minI c v (b::r) = some u) : ∃ k n k' m,v = .d (.int k n)∧b = .d (.int k' m)∧minI c (.d (.int k (bif c then (if m > n then m else n) else (if m < n then m else n)))) r = some u:=by
  unfold minI at h;split at h
  · rename_i a;cases a
  · rename_i a;cases a;exact ⟨_,_,_,_,rfl,rfl,h⟩
  · simp at h
theorem qga {a : Bool} {nx : Nat} : ∀ (r : List V) (v u : V) (x : Value) (xs : List Value),minI a v r = some u→RelV w Z inj nx v x→r.length = xs.length→(∀ (i : Nat) (d : V) (c : Value),r[i]? = some d→xs[i]? = some c→RelV w Z inj nx d c)→
    ∃ y,(xs.foldlM (if a then Builtin.max2 else Builtin.min2) x).run P w = .ok y w∧RelV w Z inj nx u y
  | [],v,u,x,xs,h,hv,hl,_=>by
    simp [minI] at h;subst h
    have : xs = []:=by cases xs <;> simp_all
    subst this
    exact ⟨x,qd,hv⟩
  | b::r,v,u,x,xs,h,hv,hl,hr=>by
    match xs,hl,hr with
    | c::xs,hl,hr=>
      have hb:=hr 0 b c rfl rfl
      obtain ⟨k,n,k',m,rfl,rfl,h⟩:=qub h
      cases hv with | d hv=>
      cases hv
      cases hb with | d hb=>
      cases hb
      obtain ⟨y,f,g⟩:=qga r _ u (.int k (bif a then (if m > n then m else n) else (if m < n then m else n))) xs h (.d (.int _ _)) (by simpa using hl) (fun i d c hd j=>hr (i + 1) d c (by simpa using hd) (by simpa using j))
      refine ⟨y,?_,g⟩
      cases a
      · simp only [Bool.false_eq_true,if_false,List.foldlM_cons,Builtin.min2,Sem.run_bind,Sem.run_pure,Result.andThen_ok,Q3] at f ⊢;exact f
      · simp only [if_true,List.foldlM_cons,Builtin.max2,Sem.run_bind,Sem.run_pure,Result.andThen_ok,Q2] at f ⊢;exact f
theorem qfz {nx : Nat} {x y : V} {xs : Array Value} (h : LRel w Z inj nx [x,y] xs) : ∃ a b,xs = #[a,b]∧RelV w Z inj nx x a∧RelV w Z inj nx y b:=by
  obtain ⟨d,c⟩:=h;obtain ⟨l⟩:=xs
  match l,d with
  | [a,b],_=>exact ⟨a,b,rfl,c 0 _ _ rfl rfl,c 1 _ _ rfl rfl⟩
theorem qfy {nx : Nat} {x : V} {xs : Array Value} (h : LRel w Z inj nx [x] xs) : ∃ a,xs = #[a]∧RelV w Z inj nx x a:=by
  obtain ⟨c,b⟩:=h;obtain ⟨l⟩:=xs
  match l,c with
  | [a],_=>exact ⟨a,rfl,b 0 _ _ rfl rfl⟩
theorem qqa {b : Builtin} {ts : Array TypeId} {ty : TypeId} {cs : Array Bool} {vs : List V} {xs : Array Value} {v : V} {st1 : AS} (hT : Z5 P T) (h : RelS w Z inj st a Ds) (p : LRel w Z inj st.nx vs xs) (hb : Y5 T st b ts vs = some (v,st1)) :
    Kg st st1 v w Z inj ((builtin b ts ty cs xs).run P w):=by
  unfold Y5 at hb;split at hb
  ·
    rename_i x;obtain ⟨s,rfl,m⟩:=qfy p;split at hb <;> try simp at hb
    rename_i t f;split at hb <;> try simp at hb
    rename_i i o;obtain ⟨ay,d,z,k⟩:=Yo (hT _ _ o);have q:=k.kind;unfold Zf at q
    have fin : ∀ n : Int,(Builtin.len_ ts ty #[s]).run P w = .ok (.int .i64 n) w→Kg st st (.d (.int .i64 n)) w Z inj ((builtin .len ts ty cs #[s]).run P w):=fun n hr=>
      .quiet h (by simp [builtin,hr]) (.d (.int _ _))
    split at hb <;> try simp at hb
    · rename_i hk;simp only [hk] at q;obtain ⟨e,ie,de,rfl,_⟩:=q;obtain ⟨rfl,rfl⟩:=hb;refine fin _ ?_;simp only [Builtin.len_,f];simp [run_underlying k.und,goInt]
    · rename_i hk;simp only [hk] at q;obtain ⟨e,ie,de,ze,rfl,_⟩:=q
      have g : ∀ ad n cap,s = .slice ad n cap→(Builtin.len_ ts ty #[s]).run P w = .ok (.int .i64 n) w:=by
        rintro ad n cap rfl;simp only [Builtin.len_,f];simp [run_underlying k.und,goInt]
      split at hb <;> try simp at hb
      · obtain ⟨rfl,rfl⟩:=hb
        cases m with | d m=>
        cases m;exact fin 0 (g _ _ _ rfl)
      · obtain ⟨rfl,rfl⟩:=hb
        cases m with | d m=>
        cases m with
        | slnil=>exact fin _ (g _ _ _ rfl)
        | slemp=>exact fin _ (g _ _ _ rfl)
        | sl=>exact fin _ (g _ _ _ rfl)
      · obtain ⟨rfl,rfl⟩:=hb
        cases m with
        | hsnil=>exact fin _ (g _ _ _ rfl)
        | hs=>exact fin _ (g _ _ _ rfl)
    · rename_i hk;simp only [hk] at q;obtain ⟨rfl,_⟩:=q;split at hb <;> try simp at hb
      obtain ⟨rfl,rfl⟩:=hb
      cases m with | d m=>
      cases m;refine fin _ ?_;simp only [Builtin.len_,f];simp [run_underlying k.und,goInt]
  ·
    obtain ⟨sv,s,rfl,hs,m⟩:=qfz p;split at hb <;> try simp at hb
    rename_i t u f am;split at hb <;> try simp at hb
    rename_i i j o ag;obtain ⟨⟨h1,h2,h3⟩,hb⟩:=hb
    have key : (Builtin.append_ ts ty #[sv,s]).run P w = (Builtin.append_ #[t,u] ty #[sv,s]).run P w:=by
      unfold Builtin.append_;simp only [f,am];rfl
    obtain ⟨x,w',inj',hr,r1,r2,r3,r4,r5⟩:=qv9 (ty:=ty) h (hT _ _ o) (hT _ _ ag) h1 h2 h3 hs m hb;exact ⟨x,w',inj',.inl (by simp [builtin,key,hr]),r1,r2,r3,r4,r5⟩
  ·
    obtain ⟨sv,s,rfl,hs,m⟩:=qfz p;split at hb <;> try simp at hb
    rename_i t u f am;split at hb <;> try simp at hb
    rename_i i j o ag;obtain ⟨⟨h1,h2,h3,h4⟩,hb⟩:=hb
    have key : (Builtin.copy_ ts ty #[sv,s]).run P w = (Builtin.copy_ #[t,u] ty #[sv,s]).run P w:=by
      unfold Builtin.copy_;simp only [f];rfl
    obtain ⟨x,w',inj',hr,r1,r2,r3,r4,r5⟩:=qvh (ty:=ty) h (hT _ _ o) (hT _ _ ag) h1 h2 h3 h4 hs m hb;exact ⟨x,w',inj',.inl (by simp [builtin,key,hr]),r1,r2,r3,r4,r5⟩
  ·
    rename_i x;obtain ⟨s,rfl,m⟩:=qfy p;split at hb <;> try simp at hb
    rename_i t f;split at hb <;> try simp at hb
    rename_i i o;obtain ⟨⟨h1,h2⟩,hb⟩:=hb
    have key : (Builtin.clear_ ts ty #[s]).run P w = (Builtin.clear_ #[t] ty #[s]).run P w:=by
      unfold Builtin.clear_;simp only [f];rfl
    obtain ⟨x,w',inj',hr,r1,r2,r3,r4,r5⟩:=qvf (ty:=ty) h (hT _ _ o) h1 h2 m hb;exact ⟨x,w',inj',.inl (by simp [builtin,key,hr]),r1,r2,r3,r4,r5⟩
  ·
    rename_i m0 k0;obtain ⟨mv,kv,rfl,hs,m⟩:=qfz p;split at hb <;> try simp at hb
    rename_i t n kd f;split at hb <;> try simp at hb
    rename_i i es o ax;split at hb <;> try simp at hb
    rename_i ks au;obtain ⟨an,bc,hd,rfl,rfl⟩:=hb
    cases m with | d m=>
    exact qvi h (hT _ _ o) f au hs m ax an hd
  ·
    rename_i v0 r
    cases hm : minI false v0 r with
    | none=>simp [hm] at hb
    | some u=>
      simp [hm] at hb;obtain ⟨rfl,rfl⟩:=hb;obtain ⟨l⟩:=xs
      match l,p with
      | [],p=>simp [LRel] at p
      | x::xs,p=>
        obtain ⟨y,h1,h2⟩:=qga (P:=P) r v0 u x xs hm (p.2 0 _ _ rfl rfl) (by simpa using p.1) (fun i d c hd hc=>p.2 (i + 1) d c (by simpa using hd) (by simpa using hc));refine .quiet h ?_ h2;simp only [Bool.false_eq_true,if_false] at h1;simp [builtin,Builtin.min_,h1]
  · rename_i v0 r
    cases hm : minI true v0 r with
    | none=>simp [hm] at hb
    | some u=>
      simp [hm] at hb;obtain ⟨rfl,rfl⟩:=hb;obtain ⟨l⟩:=xs
      match l,p with
      | [],p=>simp [LRel] at p
      | x::xs,p=>
        obtain ⟨y,h1,h2⟩:=qga (P:=P) r v0 u x xs hm (p.2 0 _ _ rfl rfl) (by simpa using p.1) (fun i d c hd hc=>p.2 (i + 1) d c (by simpa using hd) (by simpa using hc));refine .quiet h ?_ h2;simp only [if_true] at h1;simp [builtin,Builtin.max_,h1]
  · simp at hb
theorem qmd {o : Oper} {v : V} {st1 : AS} (hT : Z5 P T) (h : RelS w Z inj st a Ds) (g : opFn T st o.op = some (v,st1)) : Kg st st1 v w Z inj ((execOp a.eval o).run P w):=by
  obtain ⟨dst,op,type,pos,after,guard⟩:=o;simp only at g;cases op <;> simp only [opFn,reduceCtorEq] at g
  case move x=>
    cases hx : st.ev x with
    | none=>simp [hx] at g
    | some u=>simp [hx] at g;obtain ⟨rfl,rfl⟩:=g;exact qmb h hx rfl
  case assign x=>
    cases hx : st.ev x with
    | none=>simp [hx] at g
    | some u=>simp [hx] at g;obtain ⟨rfl,rfl⟩:=g;exact qmb h hx rfl
  case pick c x y=>
    split at g <;> try simp at g
    · rename_i hc;obtain ⟨u,hx,rfl,rfl⟩:=g;have ae:=Ka h hc;generalize ap : a.eval c = cv at ae
      cases ae with | d ae=>
      cases ae;exact .quiet h (by simp [execOp,ap,asBool]) (Ka h hx)
    · rename_i hc;obtain ⟨u,hx,rfl,rfl⟩:=g;have ae:=Ka h hc;generalize ap : a.eval c = cv at ae
      cases ae with | d ae=>
      cases ae;exact .quiet h (by simp [execOp,ap,asBool]) (Ka h hx)
  case alloc t=>
    cases ht : T t with
    | none=>simp [ht] at g
    | some i=>simp [ht] at g;obtain ⟨rfl,rfl⟩:=g;exact qv8 h (hT _ _ ht)
  case box t x=>
    split at g <;> try simp at g
    rename_i i u ht hx;obtain ⟨⟨h1,h2⟩,rfl,rfl⟩:=g;exact qvc h (hT _ _ ht) hx h1 (by simpa using h2)
  case build t ps=>
    split at g <;> try simp at g
    rename_i i vs ht hv;obtain ⟨h1,g⟩:=g;split at g <;> try simp at g
    rename_i l hl;obtain ⟨cs,hc,rfl,rfl⟩:=g;exact qvd h (hT _ _ ht) hv h1 hl hc
  case buildSlice t len ps=>
    split at g <;> try simp at g
    rename_i i vs ht hv;split at g <;> try simp at g
    rename_i l hl;obtain ⟨⟨h1,h2⟩,xs,hc,rfl,rfl⟩:=g;exact qve h (hT _ _ ht) hv hl h1 h2 hc
  case load t p=>
    split at g <;> try simp at g
    rename_i i u ht hp;obtain ⟨x,hx,rfl,rfl⟩:=g;exact qvo h (hT _ _ ht) hp hx
  case store t p x=>
    split at g <;> try simp at g
    rename_i i u y ht hp hx;obtain ⟨hs,rfl⟩:=g;exact qvv h (hT _ _ ht) hp hx hs
  case binOp op t x y u=>
    split at g
    · rename_i p q hx hy;split at g <;> try simp at g
      rename_i i ht;split at g <;> try simp at g
      rename_i ks ai;split at g <;> simp at g
      · rename_i r hc;obtain ⟨rfl,rfl⟩:=g;exact qm9 h (hT _ _ ht) hx hy ai hc (.inl ⟨rfl,rfl⟩)
      · rename_i r hc;obtain ⟨rfl,rfl⟩:=g;exact qm9 h (hT _ _ ht) hx hy ai hc (.inr ⟨rfl,rfl⟩)
    · rename_i hx hy;simp at g;obtain ⟨r,hr,rfl,rfl⟩:=g;exact qvb h hx hy hr
    · rename_i hx hy;split at g <;> try simp at g
      rename_i i ht;obtain ⟨r,hr,rfl,rfl⟩:=g;exact qva h (hT _ _ ht) hx hy hr
    · simp at g
  case unOp op t x=>
    split at g <;> try simp at g
    rename_i p hx;obtain ⟨r,hr,rfl,rfl⟩:=g;exact qvw h hx hr
  case convert src dst x=>
    split at g <;> try simp at g
    rename_i i j k n hi hj hx;split at g <;> simp at g
    rename_i k0 k1 az ax;obtain ⟨rfl,rfl⟩:=g;exact qvg h (hT _ _ hi) (hT _ _ hj) az ax hx
  case makeFunc fn first caps=>
    cases fn <;> simp only [reduceCtorEq] at g
    rename_i f;split at g <;> simp at g
    rename_i hf;obtain ⟨vs,hv,rfl,rfl⟩:=g;exact qvq h hf hv
  case makeSlice t l c=>
    split at g <;> try simp at g
    rename_i i k1 n k2 m ht hl hc;obtain ⟨⟨h1,h2,h3,h4⟩,rfl,rfl⟩:=g;exact qvs h (hT _ _ ht) h1 hl hc h2 h3 h4
  case slice t x lo hi mx=>
    split at g <;> try simp at g
    rename_i i u ht hx;obtain ⟨⟨h1,h2⟩,g⟩:=g;split at g <;> try simp at g
    rename_i n hn;split at g <;> try simp at g
    rename_i p q hp hq;obtain ⟨r,hr,rfl,rfl⟩:=g;subst h2;exact qvu h (hT _ _ ht) h1 hx hn hp hq hr
  case fieldAddr s p f=>
    split at g <;> try simp at g
    rename_i i u ht hp;split at g <;> try simp at g
    rename_i off size ag hk hf;obtain ⟨r,hr,rfl,rfl⟩:=g;exact qvk h (hT _ _ ht) hp hk hf hr
  case field s x f=>
    split at g <;> try simp at g
    rename_i i u ht hx;split at g <;> try simp at g
    rename_i off size ag cs hk hf ha;split at g <;> try simp at g
    rename_i r hr;obtain ⟨y,hy,rfl,rfl⟩:=g;exact qvj h (hT _ _ ht) hx hk hf ha hr hy
  case indexAddr t x ix=>
    split at g <;> try simp at g
    rename_i i u k n ht hx hn;obtain ⟨y,hy,rfl,rfl⟩:=g;exact qvm h (hT _ _ ht) hx hn hy
  case index t x ix=>
    split at g <;> try simp at g
    rename_i i u k n ht hx hn;split at g <;> try simp only [reduceCtorEq] at g
    · rename_i cs hk ha;split at g <;> try simp at g
      rename_i h0;split at g <;> try simp at g
      rename_i r hr;obtain ⟨y,hy,rfl,rfl⟩:=g;exact qvl h (hT _ _ ht) hx hn hk ha h0 hr hy
    · rename_i hk;split at g <;> try simp only [reduceCtorEq] at g
      rename_i s;rw [Y6] at g;obtain ⟨b,hb,e⟩:=g;cases e;exact qvn h (hT _ _ ht) hx hn hk hb
  case extract x k=>
    split at g <;> try simp at g
    · rename_i vs hx;obtain ⟨y,hy,rfl,rfl⟩:=g;exact qma h (.inl ⟨vs,y,hx,hy,rfl⟩)
    · rename_i vs hx;obtain ⟨y,hy,rfl,rfl⟩:=g;exact qma h (.inr ⟨vs,hx,hy⟩)
  case nilCheck x=>
    have key : ∀ u,st.ev x = some u→(match a.eval x with | .pointer none | .nilIface | .nilFunc | .func (.method _) _ _=>False | _=>True)→Kg st st u w Z inj ((execOp a.eval {dst:=dst,op:=.nilCheck x,type:=type,pos:=pos,after:=after,guard:=guard}).run P w):=by
      intro u hx bi;have hr:=Ka h hx;refine .quiet (x:=a.eval x) h ?_ hr;simp only [execOp];split <;> simp_all
    split at g <;> simp at g
    all_goals
      rename_i hx
      obtain ⟨rfl,rfl⟩:=g
      refine key _ hx ?_
      have hr:=Ka h hx
      generalize a.eval x = xv at hr ⊢
      first
        | (cases hr with | d hr=>cases hr <;> trivial)
        | (cases hr <;> trivial)
  case makeMap t r=>
    split at g <;> try simp at g
    obtain ⟨hk,rfl,rfl⟩:=g;exact qvr h
  case lookup t x k ok=>
    split at g <;> try simp at g
    rename_i i n kd ht hx hk;split at g <;> try simp only [reduceCtorEq] at g
    rename_i ks es z ai hb hz;split at g <;> try simp only [reduceCtorEq] at g
    rename_i ak
    cases hg : mget i.eagg ks z kd es with
    | none=>rw [hg] at g;simp at g
    | some e=>
      rw [hg] at g;simp only [Option.map_some,Option.some.injEq,Prod.mk.injEq] at g;obtain ⟨rfl,rfl⟩:=g;exact qvp h (hT _ _ ht) ai hx hk hb hz ak hg
  case mapUpdate t m k v=>
    split at g <;> try simp at g
    rename_i i n kd vd ht hm hk hv;split at g <;> try simp at g
    rename_i ks es ai hb;obtain ⟨⟨ak,hc⟩,bj,hg,rfl,rfl⟩:=g;exact qvt h (hT _ _ ht) ai hm hk hv hb ak hc hg
  case call c=>
    obtain ⟨aw,args,argTypes⟩:=c;cases aw <;> simp only [reduceCtorEq] at g
    rename_i b;split at g <;> try simp at g
    rename_i vs hv;have hl:=q95 h hv;have e2 : (args.toList.map a.eval).toArray = args.map a.eval:=by apply Array.ext';simp
    rw [e2] at hl;have:=qqa (ty:=type) (cs:=args.map fun | .const _=>true | _=>false) hT h hl g;simp only [execOp,resolve,Sem.run_bind,Sem.run_pure,Result.andThen_ok,invoke];exact this
end
end Go.Am
namespace Go.Am
open Go
variable {P : Program} {T : Tab}
theorem RelD.le {w : World} {Z : Nat→Prop} {x y : DV} {v : Value} (h : RelD w Z x v) (n : DLe x y) : RelD w Z y v:=by
  induction n generalizing v with
  | refl=>exact h
  | nil es=>cases h;exact .slnil es
  | tup hlen _ ih=>
    cases h with | @tup _ cs h1 h2=>
    refine .tup q0 fun i d c hd l=>?_;obtain ⟨x,f⟩:=Yk hlen.symm hd;exact ih i x d f hd (h2 i x c f l)
  | agg hlen _ ih=>
    cases h with | @agg _ cs h1 h2=>
    refine .agg q0 fun i d c hd l=>?_;obtain ⟨x,f⟩:=Yk hlen.symm hd;exact ih i x d f hd (h2 i x c f l)
  | @sl es xs ys hlen hrow hcell ih=>
    have k : xs = []→ys = []:=fun e=>List.length_eq_zero_iff.1 (by rw [← hlen,e];rfl)
    have row : ∀ (i : Nat) (y : List DV),ys[i]? = some y→∃ x,xs[i]? = some x∧x.length = y.length:=fun i y g=>by
      obtain ⟨x,f⟩:=Yk hlen.symm g;exact ⟨x,f,hrow i x y f g⟩
    have cell : ∀ (i : Nat) (y : List DV) (j : Nat) (d : DV),ys[i]? = some y→y[j]? = some d→∃ x c,xs[i]? = some x∧x[j]? = some c∧DLe c d:=fun i y j d g hd=>by
      obtain ⟨x,f,n⟩:=row i y g;obtain ⟨c,l⟩:=Yk n.symm hd;exact ⟨x,c,f,l,hcell i x y j c d f g l hd⟩
    cases h with
    | slnil=>rw [k rfl];exact .slnil es
    | slemp _ a=>rw [k rfl];exact .slemp es a
    | @sl _ _ b o cap h1 h2 h3 h4 h5=>
      rw [hlen];refine .sl q0 (fun s=>h2 fun e=>s (k e)) (fun i y g=>?_) (fun i y j d g hd=>?_) fun i y j d c g hd l=>?_
      · obtain ⟨x,f,n⟩:=row i y g;rw [← n];exact h3 i x f
      · obtain ⟨x,c,f,l,p⟩:=cell i y j d g hd;obtain ⟨q,t⟩:=h4 i x j c f l;refine ⟨?_,t⟩
        cases p with
        | refl=>exact q
        | nil=>rfl
        | tup=>exact absurd q (by simp [Yg])
        | agg=>exact absurd q (by simp [Yg])
        | sl=>rfl
      · obtain ⟨x,r,f,m,p⟩:=cell i y j d g hd;exact ih i x y j r d f g m hd (h5 i x j r c f m l)
section
variable {w : World} {Z : Nat→Prop} {inj : Inj} {st st' : AS} {a : Act} {Ds : List Nat} {base : Nat} {ρ : Nat→Nat} {fz ph : List Nat}
def wkZ (Z : Nat→Prop) (inj : Inj) (st : AS) (fz : List Nat) (b : Nat) : Prop:=Z b∨∃ n∈fz,∃ es xs o,find st.hp n = some (.dat es xs)∧inj n = some (b,o)
def wkI (inj : Inj) (ρ : Nat→Nat) (ph : List Nat) : Inj:=fun n=>if n∈ph then none else inj (ρ n)
theorem qe2 (h : RelH w Z inj st.hp st.nx) {nx' : Nat} {v v' : V} (hv : Wv st ρ fz ph nx' v v') : ∀ {x : Value},RelV w Z inj st.nx v x→RelV w (wkZ Z inj st fz) (wkI inj ρ ph) nx' v' x:=by
  have s : ∀ b,Z b→wkZ Z inj st fz b:=fun b hb=>.inl hb
  induction hv with
  | dead=>exact fun _=>.dead _
  | d hle=>intro x a;cases a with | d a=>exact .d ((a.le hle).mono (fun _ _=>rfl) s)
  | nil hm hlt=>intro x a;cases a with | d a=>cases a;exact .hsnil hlt
  | dref cs j=>intro x a;cases a with | dref h1 h2 h3=>exact .dref (s _ h1) h2 fun k d c hd g=>(h3 k d c hd g).mono (fun _ _=>rfl) s
  | ref hr hp hlt=>intro x a;cases a with | ref h1 h2=>exact .ref hlt (by simp only [wkI,hp,hr,if_false];exact h2)
  | hs hr hp hlt=>
    intro x a
    cases a with
    | hsnil h1=>exact .hsnil hlt
    | hs h1 h2 h3 h4=>exact .hs hlt h2 h3 fun g=>by obtain ⟨b,o,u,e2,e3⟩:=h4 g;exact ⟨b,o,by simp only [wkI,hp,hr,if_false];exact u,e2,e3⟩
  | yld hr hp hlt=>intro x a;cases a with | yld h1 h2=>exact .yld hlt (by simp only [wkI,hp,hr,if_false];exact h2)
  | mp hr hp hlt=>intro x a;cases a with | mp h1 h2=>exact .mp hlt (by simp only [wkI,hp,hr,if_false];exact h2)
  | fn hl _ ih=>
    intro x a
    cases a with | @fn _ _ cs h1 h2=>
    refine .fn q0 fun i d c hd g=>?_;obtain ⟨y,m⟩:=Yk hl.symm hd;exact ih i y d m hd (h2 i y c m g)
  | agg hl _ ih=>
    intro x a
    cases a with | @agg _ cs h1 h2=>
    refine .agg q0 fun i d c hd g=>?_;obtain ⟨y,m⟩:=Yk hl.symm hd;exact ih i y d m hd (h2 i y c m g)
  | tup hl _ ih=>
    intro x a
    cases a with | @tup _ cs h1 h2=>
    refine .tup q0 fun i d c hd g=>?_;obtain ⟨y,m⟩:=Yk hl.symm hd;exact ih i y d m hd (h2 i y c m g)
  | dtup hl _ ih=>
    intro x a
    cases a with | d a=>cases a with | @tup _ cs h1 h2=>
    refine .tup q0 fun i d c hd g=>?_;obtain ⟨y,m⟩:=Yk hl.symm hd;exact ih i y d m hd (.d (h2 i y c m g))
  | dagg hl _ ih=>
    intro x a
    cases a with | d a=>cases a with | @agg _ cs h1 h2=>
    refine .agg q0 fun i d c hd g=>?_;obtain ⟨y,m⟩:=Yk hl.symm hd;exact ih i y d m hd (.d (h2 i y c m g))
  | @frz n es o l xs ys k hb hf hle hys hk=>
    intro x a;subst hk hys;have q : ((xs.drop o).take l).length = l:=by simp;omega
    have hB:=(h.blk n _ hb).2;obtain ⟨b1,b2,z⟩:=hB
    cases a with
    | hsnil h1=>
      have : (xs.drop o).take 0 = []:=by simp
      rw [this];exact .d (.slnil _)
    | @hs _ _ _ _ cap ad h1 h2 h3 h4=>
      obtain ⟨bb,oo,sp⟩:=ad;simp only at h3;subst h3;by_cases h0 : l = 0
      · subst h0;have : (xs.drop o).take 0 = []:=by simp
        rw [this];exact .d (RelD.sl (es:=k) (xs:=[]) qd qd qd qd qd)
      · obtain ⟨b,t,u,e2,e3⟩:=h4 q0;rw [e2];rcases z with ⟨_,p⟩ | ⟨b',aa,arr,ty,p,b5,b6⟩
        · rw [u] at p;cases p
        · rw [u] at p;cases p
          have r : ∀ (i : Nat) (x : List DV),((xs.drop o).take l)[i]? = some x→xs[o + i]? = some x:=by
            intro i x a;rw [List.getElem?_take] at a;split at a
            · rwa [List.getElem?_drop] at a
            · simp at a
          have e9 : ∀ i j,t + o * k + (i * k + j) = t + ((o + i) * k + j):=by intro i j;rw [Nat.add_mul];omega
          have f : ∀ (i : Nat) (x : List DV) (j : Nat) (d : DV),((xs.drop o).take l)[i]? = some x→x[j]? = some d→Yg d = true∧∃ c,w.cell? ⟨b,t + o * k + (i * k + j),none⟩ = some c∧RelD w Z d c:=by
            intro i x j d a hd;obtain ⟨c1,c,c2,c3⟩:=b6 _ x j d (r i x a) hd;exact ⟨c1,c,by rw [e9];simp only [World.cell?,b5];exact c2,c3⟩
          have:=RelD.sl (w:=w) (Z:=wkZ Z inj st fz) (es:=k) (xs:=(xs.drop o).take l) (b:=b) (o:=t + o * k) (cap:=cap) (by rw [q];exact h2) (fun _=>.inr ⟨n,hf,_,_,t,hb,u⟩) (fun i x a=>b2 _ _ (r i x a))
            (fun i x j d a hd=>by obtain ⟨c1,c,c2,_⟩:=f i x j d a hd;exact ⟨c1,c,c2⟩)
            (fun i x j d c a hd g=>by obtain ⟨_,c',c2,c3⟩:=f i x j d a hd;rw [c2] at g;cases g;exact c3.mono (fun _ _=>rfl) s)
          rw [q] at this;exact .d this
  | @frzB n es cs k hb hf hk=>
    intro x a;subst hk;obtain ⟨b1,b2,z⟩:=(h.blk n _ hb).2
    cases a with | @ref _ _ _ _ b o h1 h2=>
    rcases z with ⟨p,_⟩ | ⟨b',aa,arr,ty,p,b5,b6⟩
    · simp at p
    · rw [h2] at p;cases p
      have f : ∀ (j : Nat) (d : DV),cs[j]? = some d→∃ c,w.cell? ⟨b,o + (0 * k + 0) + j,none⟩ = some c∧RelD w Z d c:=by
        intro j d hd;obtain ⟨c1,c,c2,c3⟩:=b6 0 cs j d rfl hd;exact ⟨c,by simp only [World.cell?,b5];rw [← c2];simp,c3⟩
      exact .d (.box (.inr ⟨n,hf,_,_,o,hb,h2⟩) (fun j d hd=>by obtain ⟨c,c2,_⟩:=f j d hd;exact ⟨c,c2⟩)
        (fun j d c hd g=>by obtain ⟨c',c2,c3⟩:=f j d hd;rw [c2] at g;cases g;exact c3.mono (fun _ _=>rfl) s))
theorem q141 (h : RelH w Z inj st.hp st.nx) {nx' n : Nat} {b b' : Blk} (hp : n ∉ ph) (hw : Wb st ρ fz ph nx' b b') (hb : RelB w Z inj st.nx (ρ n) b) : RelB w (wkZ Z inj st fz) (wkI inj ρ ph) nx' n b':=by
  have s : ∀ b,Z b→wkZ Z inj st fz b:=fun b hb=>.inl hb;have hi : wkI inj ρ ph n = inj (ρ n):=by simp [wkI,hp]
  cases hw with
  | dead=>trivial
  | dat es xs=>
    obtain ⟨p,m,a⟩:=hb;refine ⟨p,m,?_⟩;rcases a with ⟨a,g⟩ | ⟨b,o,arr,ty,a,g,r⟩
    · exact .inl ⟨a,hi.trans g⟩
    · exact .inr ⟨b,o,arr,ty,hi.trans a,g,fun i x j d f hd=>by obtain ⟨c1,c,c2,c3⟩:=r i x j d f hd;exact ⟨c1,c,c2,c3.mono (fun _ _=>rfl) s⟩⟩
  | mp es=>
    obtain ⟨b,q,cl,p,m,a,g⟩:=hb;exact ⟨b,q,cl,hi.trans p,m,a,fun i e x he f=>by obtain ⟨g1,g2,g3⟩:=g i e x he f;exact ⟨g1.mono (fun _ _=>rfl) s,g2.mono (fun _ _=>rfl) s,g3⟩⟩
  | cel hl hc=>
    obtain ⟨p,m,a⟩:=hb;refine ⟨p,?_,?_⟩
    · intro i y l;obtain ⟨x,f⟩:=Yk hl.symm l;rw [← (hc i x y f l).1];exact m i x f
    · rcases a with ⟨a,g⟩ | ⟨b,o,arr,ty,a,g,r⟩
      · exact .inl ⟨List.eq_nil_of_length_eq_zero (by rw [← hl,a];rfl),hi.trans g⟩
      · refine .inr ⟨b,o,arr,ty,hi.trans a,g,fun i y j d l hd=>?_⟩;obtain ⟨x,f⟩:=Yk hl.symm l;obtain ⟨l1,u⟩:=hc i x y f l;obtain ⟨c0,k⟩:=Yk l1.symm hd;obtain ⟨z,m2⟩:=u j c0 d k hd;obtain ⟨c1,c,c2,c3⟩:=r i x j c0 f k;exact ⟨m2,c,c2,qe2 h z c3⟩
  | datcel hl hc=>
    obtain ⟨p,m,a⟩:=hb;refine ⟨p,?_,?_⟩
    · intro i y l;obtain ⟨x,f⟩:=Yk hl.symm l;rw [← (hc i x y f l).1];exact m i x f
    · rcases a with ⟨a,g⟩ | ⟨b,o,arr,ty,a,g,r⟩
      · exact .inl ⟨List.eq_nil_of_length_eq_zero (by rw [← hl,a];rfl),hi.trans g⟩
      · refine .inr ⟨b,o,arr,ty,hi.trans a,g,fun i y j d l hd=>?_⟩;obtain ⟨x,f⟩:=Yk hl.symm l;obtain ⟨l1,u⟩:=hc i x y f l;obtain ⟨c0,k⟩:=Yk l1.symm hd;obtain ⟨z,m2⟩:=u j c0 d k hd;obtain ⟨c1,c,c2,c3⟩:=r i x j c0 f k;exact ⟨m2,c,c2,qe2 h z (.d c3)⟩
  | loop hs=>
    obtain ⟨b,tmps,D,fn,p,m,a,g⟩:=hb;refine ⟨b,tmps,D,fn,hi.trans p,m,a,fun t v' ht=>?_⟩;obtain ⟨v,hv,hw⟩:=hs t v' ht;obtain ⟨x,f,hr⟩:=g t v hv;exact ⟨x,f,qe2 h hw hr⟩
theorem qpj {nx' : Nat} {b a : Blk} (d : Wb st ρ fz ph nx' b a) (c : live a = true) : live b = true:=by
  cases d <;> first | rfl | simp [live] at c
theorem q2n (h : RelS w Z inj st a Ds) (z : Wk base ρ fz ph st st') : RelS w (wkZ Z inj st fz) (wkI inj ρ ph) st' a Ds∧Ext w Z inj st.hp w (wkZ Z inj st fz) (wkI inj ρ ph) st'.hp base:=by
  have back : ∀ n s,st'.blk n = some s→live s = true→∀ p,wkI inj ρ ph n = some p→n ∉ ph∧∃ b,st.blk (ρ n) = some b∧live b = true∧inj (ρ n) = some p:=by
    intro n s hb hl p hp;have g : n ∉ ph:=by intro hc;simp [wkI,hc] at hp
    obtain ⟨_,l⟩:=z.blocks n s hb;rcases l with ⟨l,_⟩ | ⟨_,b,h3,h4⟩
    · exact absurd l g
    · exact ⟨g,b,h3,qpj h4 hl,by simpa [wkI,g] using hp⟩
  refine ⟨⟨?_,⟨?_,?_,?_,?_,?_⟩,h.defs,h.nodup,h.marks⟩,?_⟩
  · intro t v' ht;obtain ⟨v,hv,ai⟩:=z.slots t v' ht;obtain ⟨x,hx,hr⟩:=h.slots t v hv;exact ⟨x,hx,qe2 h.heap ai hr⟩
  · intro n s hb;obtain ⟨h1,l⟩:=z.blocks n s hb;refine ⟨h1,?_⟩;rcases l with ⟨l,es,ah,rfl⟩ | ⟨l,b,h3,h4⟩
    · exact ⟨ah,qd,.inl ⟨rfl,by simp [wkI,l]⟩⟩
    · exact q141 h.heap l h4 (h.heap.blk _ _ h3).2
  · intro n m b c p q u y al an hp hq af;obtain ⟨n1,b0,n2,n3,n4⟩:=back n b u al p hp;obtain ⟨m1,c0,m2,m3,m4⟩:=back m c y an q hq;exact h.heap.sep _ _ b0 c0 p q n2 m2 n3 m3 n4 m4 (fun e=>af (z.inj n m b c u y n1 m1 e))
  · intro n b p u hl hp d;obtain ⟨n1,b0,n2,n3,n4⟩:=back n b u hl p hp;rcases d with d | ⟨m,y,es,xs,o,k,j⟩
    · exact h.heap.out _ b0 p n2 n3 n4 d
    · exact h.heap.sep _ _ b0 _ p (p.1,o) n2 k n3 rfl n4 j (fun e=>z.free n b u n1 (by rw [e];exact y)) rfl
  · intro b d;rcases d with d | ⟨m,y,es,xs,o,k,j⟩
    · exact h.heap.zs b d
    · exact h.heap.im_lt ⟨m,_,o,k,rfl,j⟩
  · intro b d;rcases d with d | ⟨m,y,es,xs,o,k,j⟩
    · exact h.heap.zc b d
    · obtain ⟨_,_,b3⟩:=(h.heap.blk m _ k).2;rcases b3 with ⟨_,b4⟩ | ⟨s,ar,arr,ty,b4,b5,_⟩
      · rw [j] at b4;cases b4
      · rw [j] at b4;cases b4;exact ⟨_,_,_,b5⟩
  · refine ⟨Nat.le_refl _,fun _ _ _=>rfl,?_,fun _ c e f h=>⟨c,e,f,h,rfl⟩,fun _ r h=>⟨r,h,rfl⟩,fun _ h=>.inl h,?_,?_,rfl,rfl,rfl,fun _=>rfl⟩
    · rintro b ⟨n,blk,o,k,k2,j⟩;obtain ⟨n1,b0,n2,n3,n4⟩:=back n blk k k2 _ j;exact .inl ⟨_,b0,o,n2,n3,n4⟩
    · intro b d;rcases d with d | ⟨m,y,es,xs,o,k,j⟩
      · exact .inl d
      · exact .inr (.inl ⟨m,_,o,k,rfl,j⟩)
    · intro n u;have g : n ∉ ph:=fun hc=>by have:=z.phantom n hc;omega
      simp [wkI,g,z.small n u]
end
end Go.Am
namespace Go.Am
open Go
variable {P : Program} {T : Tab}
section
variable {w : World} {Z : Nat→Prop} {inj : Inj} {st : AS} {a : Act} {Ds : List Nat}
theorem qxt {r : ResultVar} {v : V} (k : Z5 P T) (h : RelH w Z inj st.hp st.nx) (hs : Yu w Z inj st.nx st.sl a.tmps) (f : qgy T st r = some v) :
    ∃ x,(match r with | .tmp t=>pure (a.tmps.getD t undef) | .cell p t=>(do loadVar t (← asAddr (a.tmps.getD p undef)) : Sem Value) : Sem Value).run P w = .ok x w∧RelV w Z inj st.nx v x:=by
  cases r with
  | tmp t=>
    obtain ⟨x,g,c⟩:=hs t v f;exact ⟨x,by simp [Array.getD_eq_getD_getElem?,g],c⟩
  | cell p t=>
    simp only [qgy] at f;split at f <;> try simp at f
    rename_i pv i hp l;obtain ⟨x,g,c⟩:=hs p pv hp;obtain ⟨b,o,y,e,d,j⟩:=qle (P:=P) h (k _ _ l) c f;refine ⟨y,?_,j⟩;rw [e] at g d;simp [Instr.loadAt,Instr.sureAddr] at d;simp [Array.getD_eq_getD_getElem?,g,asAddr,d]
theorem qn9 (q : Z5 P T) (h : RelH w Z inj st.hp st.nx) (hs : Yu w Z inj st.nx st.sl a.tmps) (g : ResultVar→Sem Value) (j : ∀ t,g (.tmp t) = pure (a.tmps.getD t undef))
    (f : ∀ p t,g (.cell p t) = (do loadVar t (← asAddr (a.tmps.getD p undef)))) : ∀ {l : List ResultVar} {k : List V},resL T st l = some k→
    ∃ xs : List Value,(l.mapM g).run P w = .ok xs w∧LRel w Z inj st.nx k xs.toArray
  | [],k,hr=>by simp [resL] at hr;subst hr;exact ⟨[],qd,qd,qd⟩
  | r::l,k,hr=>by
    simp only [resL] at hr
    split at hr <;> try simp at hr
    rename_i v z y u
    subst hr
    obtain ⟨x,o,b⟩:=qxt q h hs y
    obtain ⟨xs,n,s⟩:=qn9 q h hs g j f u
    have o : (g r).run P w = .ok x w:=by
      rw [← o];cases r
      · rw [j]
      · rw [f]
    refine ⟨x::xs,?_,?_,?_⟩
    · rw [List.mapM_cons]
      simp only [Sem.run_bind,o,Result.andThen_ok,n,Sem.run_pure]
    · have:=s.1;simp at this ⊢;omega
    · intro i d c hd m
      cases i with
      | zero=>simp at hd m;subst hd m;exact b
      | succ i=>simp at hd m;exact s.2 i d c hd (by simpa using m)
theorem quc {nx : Nat} {cs : List V} {xs : Array Value} (h : LRel w Z inj nx cs xs) : RelV w Z inj nx (qgc cs) (.tuple xs):=by
  unfold qgc;split
  · rename_i ds hd;have:=q5h hd;subst this;refine .d (.tup (by simpa using h.1) fun i d c b a=>?_);have:=h.2 i (.d d) c (by simp [b]) a
    cases this with | d h=>exact h
  · exact .tup h.1 h.2
theorem qxu {fn : Func} {v : V} (q : Z5 P T) (h : RelH w Z inj st.hp st.nx) (hs : Yu w Z inj st.nx st.sl a.tmps) (c : resV T st fn.results.toList = some v) : ∃ x,(results fn a.tmps).run P w = .ok x w∧RelV w Z inj st.nx v x:=by
  unfold resV at c
  have key : ∀ j,resL T st fn.results.toList = some j→∃ xs : List Value,(results fn a.tmps).run P w = .ok (if h : xs.toArray.size = 1 then xs.toArray[0] else .tuple xs.toArray) w∧LRel w Z inj st.nx j xs.toArray:=by
    intro j b;unfold results;generalize n : (fun x=>match x with | .tmp t=>pure (a.tmps.getD t undef) | .cell p t=>(do loadVar t (← asAddr (a.tmps.getD p undef)) : Sem Value) : ResultVar→Sem Value) = g;rw [Sem.run_bind,Array.mapM_eq_mapM_toList,Sem.run_map];obtain ⟨xs,m,d⟩:=qn9 q h hs g (fun t=>by rw [← n]) (fun p t=>by rw [← n]) b;refine ⟨xs,?_,d⟩;rw [m];rfl
  split at c
  · rename_i s b;simp at c;subst c;obtain ⟨xs,k,d⟩:=key _ b;obtain ⟨y,o,f⟩:=qfy d;have : xs = [y]:=by simpa using congrArg Array.toList o
    subst this;exact ⟨y,by simpa using k,f⟩
  · rename_i j l b;simp at c;subst c;obtain ⟨xs,k,d⟩:=key _ b;refine ⟨.tuple xs.toArray,?_,quc d⟩
    have : xs.toArray.size≠1:=by
      rw [← d.1];intro r
      match j,r with
      | [x],_=>exact l x rfl
    rw [dif_neg this] at k;exact k
  · simp at c
end
end Go.Am
namespace Go.Am
open Go
variable {P : Program} {T : Tab}
section
variable {w : World} {Z : Nat→Prop} {inj : Inj} {hp : List (Nat × Blk)} {nx : Nat}
theorem q68 {α β : Type} {f : α→Option β} : ∀ {l : List α} {r : List β},Zi f l = some r→r.length = l.length∧∀ (i : Nat) (x : α),l[i]? = some x→∃ y,r[i]? = some y∧f x = some y
  | [],r,h=>by simp [Zi] at h;subst h;simp
  | x::l,r,h=>by
    simp only [Zi] at h
    split at h <;> try simp at h
    rename_i y k
    split at h <;> simp at h
    rename_i m b
    subst h
    obtain ⟨j,d⟩:=q68 b
    refine ⟨by simp [j],fun i z a=>?_⟩
    cases i with
    | zero=>simp at a;subst a;exact ⟨y,rfl,k⟩
    | succ i=>simp at a;obtain ⟨u,c,g⟩:=d i z a;exact ⟨u,by simpa using c,g⟩
def zAll (w : World) (Z : Nat→Prop) (inj : Inj) (hp : List (Nat × Blk)) (b : Nat) : Prop:=Z b∨(im hp inj b∧∃ c e f,w.heap[b]? = some (.cells c e f))
theorem q13i {k : Nat} {v : V} {d : DV} (h : toD hp k v = some d) (a : Kh v = true) : Yg d = true:=by
  cases k with
  | zero=>cases v <;> simp [toD] at h;subst h;exact a
  | succ k=>
    cases v with
    | d x=>simp [toD] at h;subst h;exact a
    | agg cs=>simp [Kh] at a
    | tup cs=>simp [Kh] at a
    | dead=>simp [Kh] at a
    | fn f cs=>simp only [toD,Y6] at h;obtain ⟨_,_,rfl⟩:=h;rfl
    | yld n=>simp [toD] at h
    | mp n=>simp [toD] at h
    | dref cs j=>simp [toD] at h
    | hs n es o l=>
      simp only [toD] at h;split at h
      · split at h <;> simp at h;subst h;rfl
      · split at h <;> simp at h;obtain ⟨_,_,rfl⟩:=h;rfl
      · simp at h
    | ref n es i j=>
      simp only [toD] at h;split at h
      · split at h <;> simp at h;subst h;rfl
      · split at h <;> simp at h;obtain ⟨_,_,rfl⟩:=h;rfl
      · simp at h
theorem qbd (h : RelH w Z inj hp nx) : ∀ (k : Nat) {v : V} {x : Value} {d : DV},toD hp k v = some d→RelV w Z inj nx v x→RelD w (zAll w Z inj hp) d x
  | 0,v,x,d,hd,hv=>by
    cases v <;> simp [toD] at hd
    subst hd
    cases hv with | d hv=>exact hv.mono (fun _ _=>rfl) (fun _ hz=>.inl hz)
  | k + 1,v,x,d,hd,hv=>by
    have hz : ∀ b,Z b→zAll w Z inj hp b:=fun _ hz=>.inl hz
    have ih:=fun {v : V} {x : Value} {d : DV}=>qbd h k (v:=v) (x:=x) (d:=d)
    have list : ∀ {cs : List V} {ds : List DV} {xs : Array Value},Zi (toD hp k) cs = some ds→cs.length = xs.size→(∀ (i : Nat) (d : V) (c : Value),cs[i]? = some d→xs[i]? = some c→RelV w Z inj nx d c)→
        ds.length = xs.size∧∀ (i : Nat) (d : DV) (c : Value),ds[i]? = some d→xs[i]? = some c→RelD w (zAll w Z inj hp) d c:=by
      intro cs ds xs hm hl hr;obtain ⟨h1,h2⟩:=q68 hm;refine ⟨q0,fun i d c hd hc=>?_⟩;obtain ⟨y,hy⟩:=Yk h1 hd;obtain ⟨d',q,hf⟩:=h2 i y hy;rw [hd] at q;cases q;exact ih hf (hr i y c hy hc)
    cases v with
    | d y=>simp [toD] at hd;subst hd;cases hv with | d hv=>exact hv.mono (fun _ _=>rfl) hz
    | agg cs=>
      simp only [toD,Y6] at hd;obtain ⟨ds,hm,rfl⟩:=hd
      cases hv with | agg h1 h2=>obtain ⟨a,b⟩:=list hm h1 h2;exact .agg a b
    | tup cs=>
      simp only [toD,Y6] at hd;obtain ⟨ds,hm,rfl⟩:=hd
      cases hv with | tup h1 h2=>obtain ⟨a,b⟩:=list hm h1 h2;exact .tup a b
    | fn f cs=>
      simp only [toD,Y6] at hd;obtain ⟨ds,hm,rfl⟩:=hd
      cases hv with | fn h1 h2=>obtain ⟨a,b⟩:=list hm h1 h2;exact .fn a b
    | dead=>simp [toD] at hd
    | yld n=>simp [toD] at hd
    | mp n=>simp [toD] at hd
    | dref cs j=>simp [toD] at hd
    | hs n es o l=>
      have key : ∀ (rows : List (List DV)) (blk : Blk),rows.length = l→find hp n = some blk→live blk = true→(∀ (i : Nat) (x : List DV),rows[i]? = some x→x.length = es)→
          (∀ b r,inj n = some (b,r)→∃ arr ty,w.heap[b]? = some (.cells arr ty (0,0))∧∀ (i : Nat) (x : List DV) (j : Nat) (d : DV),rows[i]? = some x→x[j]? = some d→Yg d = true∧∃ c,arr[r + ((o + i) * es + j)]? = some c∧RelD w (zAll w Z inj hp) d c)→
          RelD w (zAll w Z inj hp) (.sl es rows) x:=by
        intro rows blk ag hb s aa t
        cases hv with
        | hsnil h1=>
          have : rows = []:=List.length_eq_zero_iff.1 ag;subst this;exact .slnil es
        | @hs _ _ _ _ cap ad h1 h2 h3 h4=>
          obtain ⟨bb,oo,sp⟩:=ad;simp only at h3;subst h3;by_cases h0 : l = 0
          · have : rows = []:=List.length_eq_zero_iff.1 q0;subst this;subst h0;exact RelD.sl (es:=es) (xs:=[]) qd qd qd qd qd
          · obtain ⟨b,r,e1,e2,e3⟩:=h4 q0;rw [e2];obtain ⟨arr,ty,b5,b6⟩:=t b r e1;have e9 : ∀ i j,r + o * es + (i * es + j) = r + ((o + i) * es + j):=by intro i j;rw [Nat.add_mul];omega
            have hc : ∀ (i : Nat) (x : List DV) (j : Nat) (d : DV),rows[i]? = some x→x[j]? = some d→Yg d = true∧∃ c,w.cell? ⟨b,r + o * es + (i * es + j),none⟩ = some c∧RelD w (zAll w Z inj hp) d c:=by
              intro i x j d g hd;obtain ⟨c1,c,c2,c3⟩:=b6 _ x j d g hd;exact ⟨c1,c,by rw [e9];simp only [World.cell?,b5];exact c2,c3⟩
            have:=RelD.sl (w:=w) (Z:=zAll w Z inj hp) (es:=es) (xs:=rows) (b:=b) (o:=r + o * es) (cap:=cap) (by rw [ag];exact h2) (fun _=>.inr ⟨⟨n,blk,r,hb,s,e1⟩,_,_,_,b5⟩) aa
              (fun i x j d g hd=>by obtain ⟨c1,c,c2,_⟩:=hc i x j d g hd;exact ⟨c1,c,c2⟩)
              (fun i x j d c g hd af=>by obtain ⟨_,c',c2,c3⟩:=hc i x j d g hd;rw [c2] at af;cases af;exact c3)
            rw [ag] at this;exact this
      simp only [toD] at hd;split at hd
      · rename_i m xs hb;split at hd <;> simp at hd
        rename_i ai;obtain ⟨ai,rfl⟩:=ai;subst hd;obtain ⟨b1,b2,b3⟩:=(h.blk n _ hb).2
        have z : ∀ (i : Nat) (x : List DV),((xs.drop o).take l)[i]? = some x→xs[o + i]? = some x:=by
          intro i x g;rw [List.getElem?_take] at g;split at g
          · rwa [List.getElem?_drop] at g
          · simp at g
        refine key _ _ (by simp;omega) hb rfl (fun i x g=>b2 _ _ (z i x g)) ?_;intro b r hi;rcases b3 with ⟨_,p⟩ | ⟨b',ap,arr,ty,p,b5,b6⟩
        · rw [hi] at p;cases p
        · rw [hi] at p;cases p;refine ⟨arr,ty,b5,fun i x j d g hd=>?_⟩;obtain ⟨c1,c,c2,c3⟩:=b6 _ x j d (z i x g) hd;exact ⟨c1,c,c2,c3.mono (fun _ _=>rfl) hz⟩
      · rename_i m xs hb;split at hd <;> simp at hd
        rename_i ai;obtain ⟨ai,rfl⟩:=ai;obtain ⟨rows,hm,rfl⟩:=hd;obtain ⟨m1,m2⟩:=q68 hm;obtain ⟨b1,b2,b3⟩:=(h.blk n _ hb).2
        have z : ∀ (i : Nat) (x : List V),((xs.drop o).take l)[i]? = some x→xs[o + i]? = some x:=by
          intro i x g;rw [List.getElem?_take] at g;split at g
          · rwa [List.getElem?_drop] at g
          · simp at g
        have aa : ∀ (i : Nat) (x : List DV),rows[i]? = some x→∃ y,xs[o + i]? = some y∧Zi (toD hp k) y = some x:=by
          intro i x g;obtain ⟨y,hy⟩:=Yk m1 g;obtain ⟨x',ar,hf⟩:=m2 i y hy;rw [g] at ar;cases ar;exact ⟨y,z _ _ hy,hf⟩
        refine key rows _ (by simp at m1;omega) hb rfl (fun i x g=>by obtain ⟨y,hy,hf⟩:=aa i x g;rw [(q68 hf).1];exact b2 _ _ hy) ?_;intro b r hi;rcases b3 with ⟨_,p⟩ | ⟨b',ap,arr,ty,p,b5,b6⟩
        · rw [hi] at p;cases p
        · rw [hi] at p;cases p;refine ⟨arr,ty,b5,fun i x j d g hd=>?_⟩;obtain ⟨y,hy,hf⟩:=aa i x g;obtain ⟨f1,f2⟩:=q68 hf;obtain ⟨u,hu⟩:=Yk f1 hd;obtain ⟨d',q,al⟩:=f2 j u hu;rw [hd] at q;cases q;obtain ⟨c1,c,c2,c3⟩:=b6 _ y j u hy hu;exact ⟨q13i al c1,c,c2,ih al c3⟩
      · simp at hd
    | ref n es i j=>
      have key : ∀ (row : List DV) (blk : Blk),i = 0→j = 0→find hp n = some blk→live blk = true→
          (∀ b r,inj n = some (b,r)→∃ arr ty,w.heap[b]? = some (.cells arr ty (0,0))∧∀ (j : Nat) (d : DV),row[j]? = some d→∃ c,arr[r + j]? = some c∧RelD w (zAll w Z inj hp) d c)→
          RelD w (zAll w Z inj hp) (.box row) x:=by
        intro row blk hi hj hb s t
        subst hi hj
        cases hv with | @ref _ _ _ _ b o h1 h2=>
        obtain ⟨arr,ty,b5,b6⟩:=t b o h2
        have hc : ∀ (j : Nat) (d : DV),row[j]? = some d→∃ c,w.cell? ⟨b,o + (0 * es + 0) + j,none⟩ = some c∧RelD w (zAll w Z inj hp) d c:=by
          intro j d hd;obtain ⟨c,c2,c3⟩:=b6 j d hd;exact ⟨c,by simp only [World.cell?,b5];rw [← c2];simp,c3⟩
        exact .box (.inr ⟨⟨n,blk,o,hb,s,h2⟩,_,_,_,b5⟩) (fun j d hd=>by obtain ⟨c,c2,_⟩:=hc j d hd;exact ⟨c,c2⟩)
          (fun j d c hd af=>by obtain ⟨c',c2,c3⟩:=hc j d hd;rw [c2] at af;cases af;exact c3)
      simp only [toD] at hd;split at hd
      · rename_i m xs hb;split at hd <;> simp at hd
        subst hd;obtain ⟨b1,b2,b3⟩:=(h.blk n _ hb).2;refine key _ _ rfl rfl hb rfl ?_;intro b r hi;rcases b3 with ⟨p,_⟩ | ⟨b',ap,arr,ty,p,b5,b6⟩
        · simp at p
        · rw [hi] at p;cases p;refine ⟨arr,ty,b5,fun j d hd=>?_⟩;obtain ⟨_,c,c2,c3⟩:=b6 0 _ j d rfl hd;exact ⟨c,by rw [← c2];simp,c3.mono (fun _ _=>rfl) hz⟩
      · rename_i m xs hb;split at hd <;> simp at hd
        obtain ⟨row,hm,rfl⟩:=hd;obtain ⟨b1,b2,b3⟩:=(h.blk n _ hb).2;refine key _ _ rfl rfl hb rfl ?_;intro b r hi;rcases b3 with ⟨p,_⟩ | ⟨b',ap,arr,ty,p,b5,b6⟩
        · simp at p
        · rw [hi] at p;cases p;refine ⟨arr,ty,b5,fun j d hd=>?_⟩;obtain ⟨f1,f2⟩:=q68 hm;obtain ⟨u,hu⟩:=Yk f1 hd;obtain ⟨d',q,al⟩:=f2 j u hu;rw [hd] at q;cases q;obtain ⟨_,c,c2,c3⟩:=b6 0 _ j u rfl hu;exact ⟨c,by rw [← c2];simp,ih al c3⟩
      · simp at hd
theorem qi8 (h : RelH w Z inj hp nx) : ∀ {f : List V} {ds : List DV},Ko hp f = some ds→ds.length = f.length∧∀ (i : Nat) (v : V),f[i]? = some v→∃ d,ds[i]? = some d∧toD hp 8 v = some d
  | [],ds,hd=>by simp [Ko] at hd;subst hd;simp
  | v::r,ds,hd=>by
    simp only [Ko] at hd
    split at hd <;> simp at hd
    rename_i x l m j
    subst hd
    obtain ⟨a,b⟩:=qi8 h j
    refine ⟨by simp [a],fun i u c=>?_⟩
    cases i with
    | zero=>simp at c;subst c;exact ⟨x,rfl,m⟩
    | succ i=>simp at c;obtain ⟨d,g,k⟩:=b i u c;exact ⟨d,by simpa using g,k⟩
theorem qu3 (h : RelH w Z inj hp nx) {k : List V} {ds : List DV} {xs : Array Value} (hd : Ko hp k = some ds) (j : LRel w Z inj nx k xs) (inj' : Inj) : LRel w (zAll w Z inj hp) inj' 0 (ds.map .d) xs:=by
  obtain ⟨a,b⟩:=qi8 h hd;refine ⟨by simpa [a] using j.1,fun i d c f m=>?_⟩;simp only [List.getElem?_map,Y6] at f;obtain ⟨p,f,rfl⟩:=f;obtain ⟨v,l⟩:=Yk a f;obtain ⟨o,g,n⟩:=b i v l;rw [f] at g;cases g;exact .d (qbd h 8 n (j.2 i v c l m))
theorem qu2 {a : List V} {ds : List DV} {xs : Array Value} (hd : Ko hp a = some ds) (f : a.all V.isD = true) (k : LRel w Z inj nx a xs) (inj' : Inj) : LRel w Z inj' 0 (ds.map .d) xs:=by
  have e : ∀ {a : List V} {ds : List DV},Ko hp a = some ds→a.all V.isD = true→ds.map .d = a:=by
    intro a
    induction a with
    | nil=>intro ds hd _;simp [Ko] at hd;subst hd;rfl
    | cons v r ih=>
      intro ds hd f;simp only [Ko] at hd;split at hd <;> simp at hd
      rename_i x l b h;subst hd;simp only [List.all_cons,Bool.and_eq_true] at f;obtain ⟨j,g⟩:=f;cases v <;> simp [V.isD] at j
      simp [toD] at b;subst b;rw [List.map_cons,ih h g]
  refine ⟨by rw [e hd f];exact k.1,fun i d c b h=>?_⟩;rw [e hd f] at b;have m : V.isD d = true:=(List.all_eq_true.1 f) d (List.mem_of_getElem? b);have:=k.2 i d c b h;cases this <;> simp [V.isD] at m
  exact .d ‹_›
theorem qy0 {Z Z' : Nat→Prop} {d : DV} {x : Value} (h : RelD w Z d x) (hs : d.scalar = true) : RelD w Z' d x:=by
  have go : ∀ {ds : List DV},DV.scalar.go ds = true→∀ (i : Nat) (d : DV),ds[i]? = some d→(∀ {x : Value},RelD w Z d x→RelD w Z' d x):=by
    intro ds
    induction ds with
    | nil=>intro _ i d h;simp at h
    | cons y r ih=>
      intro b i d hd
      cases i with
      | zero=>
        simp at hd;subst hd;intro x f;cases y <;> simp [DV.scalar.go] at b <;> cases f <;> constructor
      | succ i=>
        simp at hd;refine ih ?_ i d hd;cases y <;> simp [DV.scalar.go] at b <;> exact b
  cases d <;> simp [DV.scalar] at hs
  case tup ds=>cases h with | tup h1 h2=>exact .tup h1 fun i d c hd a=>go hs i d hd (h2 i d c hd a)
  case agg ds=>cases h with | agg h1 h2=>exact .agg h1 fun i d c hd a=>go hs i d hd (h2 i d c hd a)
  all_goals (cases h <;> constructor)
end
end Go.Am
namespace Go.Am
open Go
variable {P : Program} {T : Tab}
def Fw (ro : Option Nat) : Fence:={fn:=fun _=>True,depth:=none,alive:=false,round:=ro}
def toE : Ex→Exit
  | .nor=>.normal
  | .exit id=>.exit id
  | .ret=>.ret
def Yh (ro : Option Nat) (w : World) : Prop:=∀ l,ro = some l→∃ r,w.heap[l]? = some (.loop r)
def Kv (base : Nat) (w : World) (Z : Nat→Prop) (inj : Inj) (st : AS) (a : Act) (Ds : List Nat) (st' : AS) (a' : Act) (w' : World) : Prop:=
  ∃ Z' inj' Ds',RelS w' Z' inj' st' a' Ds'∧Ext w Z inj st.hp w' Z' inj' st'.hp base∧a'.tmps.size = a.tmps.size∧base≤st'.nx∧∀ D∈Ds',D∈Ds∨w.heap.size≤D
section
variable {base : Nat} {w : World} {Z : Nat→Prop} {inj : Inj} {st st' st'' : AS} {a a' a'' : Act} {Ds : List Nat} {w' w'' : World}
theorem Kv.refl (h : RelS w Z inj st a Ds) (hb : base≤st.nx) : Kv base w Z inj st a Ds st a w:=⟨Z,inj,Ds,h,.refl,rfl,hb,fun _ h=>.inl h⟩
theorem Yh.ext {ro : Option Nat} {Z' : Nat→Prop} {inj' : Inj} {hp hp' : List (Nat × Blk)} {pin : Nat} (h : Yh ro w) (e : Ext w Z inj hp w' Z' inj' hp' pin) : Yh ro w':=
  fun l a=>let ⟨r,hr⟩:=h l a;let ⟨r',h',_⟩:=e.loops l r hr;⟨r',h'⟩
theorem Kv.bind {Q : Prop} (p : Kv base w Z inj st a Ds st' a' w') (h : ∀ Z' inj' b,RelS w' Z' inj' st' a' b→a'.tmps.size = a.tmps.size→base≤st'.nx→(∀ ro,Yh ro w→Yh ro w')→
    (∀ st'' a'' w'',Kv base w' Z' inj' st' a' b st'' a'' w''→Kv base w Z inj st a Ds st'' a'' w'')→Q) : Q:=by
  obtain ⟨Z',inj',b,j,c,d,q,u⟩:=p;refine h Z' inj' b j d q (fun ro f=>f.ext c) ?_;rintro st'' a'' w'' ⟨k,o,r,s,l,n,m,t⟩;refine ⟨k,o,r,s,c.trans l (Nat.le_refl _),n.trans d,m,fun D g=>?_⟩;rcases t D g with h | h
  · exact u D h
  · exact .inr (Nat.le_trans c.size h)
theorem qjm {n : Nat} {t : Tmp} (h : Jd n (some t) = true) : t < n:=by simpa [Jd,Nat.blt_eq] using h
theorem qmm (a : Act) (d : Option Tmp) (v : Value) : (a.put d v).tmps.size = a.tmps.size:=by cases d <;> simp [Act.put]
theorem Yu.put {nx : Nat} {s : List (Nat × V)} {tmps : Array Value} {v : V} {x : Value} {t : Tmp} (h : Yu w Z inj nx s tmps) (c : RelV w Z inj nx v x) (d : t < tmps.size) : Yu w Z inj nx ((t,v)::s) (tmps.setIfInBounds t x):=by
  intro u y a;rw [Ku] at a;split at a
  · rename_i e;subst e;cases a;exact ⟨x,by simp [d],c⟩
  · rename_i e;obtain ⟨z,f,b⟩:=h u y a;exact ⟨z,by rw [Array.getElem?_setIfInBounds_ne e];exact f,b⟩
theorem qxm {Z' : Nat→Prop} {inj' : Inj} {hp' : List (Nat × Blk)} {nx' : Nat} {v : V} {x : Value} {dst : Option Tmp} (h : RelS w Z inj st a Ds) (e : Ext w Z inj st.hp w' Z' inj' hp' st.nx) (c : RelH w' Z' inj' hp' nx') (f : st.nx≤nx')
    (d : RelV w' Z' inj' nx' v x) (hd : Jd a.tmps.size dst = true) : RelS w' Z' inj' ({sl:=st.sl,hp:=hp',nx:=nx' : AS}.putD dst v) (a.put dst x) Ds:=by
  have hs : Yu w' Z' inj' nx' st.sl a.tmps:=h.slots.mono (e.zkeep h.heap) e.zin e.big e.pinj f
  cases dst with
  | none=>exact ⟨hs,c,h.defs,h.nodup,fun D b=>e.marks h.heap (h.marks D b)⟩
  | some t=>exact ⟨hs.put d (qjm hd),c,h.defs,h.nodup,fun D b=>e.marks h.heap (h.marks D b)⟩
theorem Yl (st : AS) (d : Option Tmp) (v : V) : (st.putD d v).hp = st.hp:=by cases d <;> rfl
theorem Ym (st : AS) (d : Option Tmp) (v : V) : (st.putD d v).nx = st.nx:=by cases d <;> rfl
theorem q45 {Z' : Nat→Prop} {inj' : Inj} {hp' : List (Nat × Blk)} {nx' : Nat} {v : V} {x : Value} {dst : Option Tmp} (h : RelS w Z inj st a Ds) (hb : base≤st.nx) (e : Ext w Z inj st.hp w' Z' inj' hp' st.nx) (d : RelH w' Z' inj' hp' nx') (b : st.nx≤nx')
    (c : RelV w' Z' inj' nx' v x) (hd : Jd a.tmps.size dst = true) : Kv base w Z inj st a Ds ({sl:=st.sl,hp:=hp',nx:=nx' : AS}.putD dst v) (a.put dst x) w':=
  ⟨Z',inj',Ds,qxm h e d b c hd,by rw [Yl];exact e.pin_le hb,qmm _ _ _,by rw [Ym];exact Nat.le_trans hb b,fun _ h=>.inl h⟩
def Uy (P : Program) (F : Fence) (ops : Array Oper) (Q : Exit→Act→World→Prop) (o : Oper) (K : Act→World→Prop) (a : Act) (w : World) : Prop:=
  if Region.wanted o (yielded ops a.tmps) then o.wpIn F 0 P a w K Q else (∀ f,o.about P w a.eval = some f→F.fn f)∧K (a.put o.dst undef) w
theorem qhg {F : Fence} {ops : Array Oper} {Q : Exit→Act→World→Prop} {o : Oper} {K : Act→World→Prop} {i : Nat} (hi : ops[i]? = some o) (h : Uy P F ops Q o K a w) : wpOpIn F 0 P ops Q i K a w:=by
  unfold wpOpIn;rw [hi];exact h
def Jy (P : Program) (base : Nat) (ops : Array Oper) (o : Oper) (st st' : AS) : Prop:=
  ∀ (ro : Option Nat) (Q : Exit→Act→World→Prop) (w : World) (Z : Nat→Prop) (inj : Inj) (a : Act) (Ds : List Nat) (K : Act→World→Prop),RelS w Z inj st a Ds→Jd a.tmps.size o.dst = true→base≤st.nx→Yh ro w→
    (∀ a' w',Kv base w Z inj st a Ds st' a' w'→K a' w')→Uy P (Fw ro) ops Q o K a w
theorem q41 {ops : Array Oper} {o : Oper} {b : Bool} (h : RelS w Z inj st a Ds) (c : Qt ops st o = some b) : Region.wanted o (yielded ops a.tmps) = b:=by
  unfold Qt at c;unfold Region.wanted
  cases g : o.guard with
  | none=>rw [g] at c;simp at c;simp [c]
  | some jw=>
    obtain ⟨j,m⟩:=jw;rw [g] at c;simp only at c ⊢
    cases hd : (ops[j]?).bind (·.dst) with
    | none=>rw [hd] at c;simp at c
    | some t=>
      rw [hd] at c;simp only at c;unfold yielded;rw [hd];split at c
      · rename_i n k;obtain ⟨x,l,f⟩:=h.slots t _ k
        cases f with | d f=>
        cases f;simp at c;simp [l,c]
      · rename_i k;obtain ⟨x,l,f⟩:=h.slots t _ k
        cases f with | d f=>
        cases f;simp at c;simp [l,← c]
      · simp at c
theorem qxo {nx : Nat} : RelV w Z inj nx (.d (.tup [])) undef:=.d (.tup qd qd)
theorem qko {ops : Array Oper} {o : Oper} (c : Qt ops st o = some false) : Jy P base ops o st (st.putD o.dst (.d (.tup []))):=by
  intro ro Q w Z inj a Ds K h hd hb _ b;unfold Uy;rw [q41 h c];simp only [Bool.false_eq_true,if_false];exact ⟨fun _ _=>trivial,b _ _ (q45 h hb .refl h.heap (Nat.le_refl _) qxo hd)⟩
theorem qmc {op : Op} {v : V} {st1 : AS} (a : opFn T st op = some (v,st1)) : ∀ c,op≠.defer c:=by
  rintro c rfl;simp [opFn] at a
theorem qfk {ops : Array Oper} {o : Oper} {v : V} {st1 : AS} (p : Z5 P T) (n : Qt ops st o = some true) (k : opFn T st o.op = some (v,st1)) : Jy P base ops o st (st1.putD o.dst v):=by
  intro ro Q w Z inj a Ds K h hd hb _ l;unfold Uy;rw [q41 h n];simp only [if_true];refine ⟨fun _ _=>trivial,?_⟩;rw [show (Fw ro).round = ro from rfl,Oper.semAt_eq ro _ o (qmc k)];obtain ⟨x,w',inj',d,m,f,j,c,g⟩:=qmd p h k;obtain ⟨sl1,hp1,nx1⟩:=st1;simp only at c g m f j;subst c;have b:=q45 h hb j f g m hd;rcases d with d | ⟨d,rfl⟩
  · rw [d];exact l _ _ b
  · rw [d];exact l _ _ b
def Jw (P : Program) (f : FuncId) (vs : List V) (hp : List (Nat × Blk)) (nx : Nat) (v : V) (hp' : List (Nat × Blk)) (nx' : Nat) : Prop:=
  (∀ (args : Array Value) (w : World),(callFunc f args).run P w = .ok (.enter f args) w)∧
  ∀ (w : World) (Z : Nat→Prop) (inj : Inj) (xs : Array Value),RelH w Z inj hp nx→LRel w Z inj nx vs xs→
    CallsIn (Fw none) 0 P f xs w (fun e w'=>∃ x Z' inj',e = .returned x∧RelH w' Z' inj' hp' nx'∧Ext w Z inj hp w' Z' inj' hp' nx∧RelV w' Z' inj' nx' v x∧nx≤nx')
theorem qel {c : Call} {o : Oper} {f : FuncId} {x : List V} (h : RelS w Z inj st a Ds) (v : o.op = .call c) (j : callee st c = some (f,x)) (k : ∀ (args : Array Value) (w : World),(callFunc f args).run P w = .ok (.enter f args) w) :
    ∃ xs,(execOp a.eval o).run P w = .ok (.enter f xs) w∧LRel w Z inj st.nx x xs:=by
  obtain ⟨dst,op,type,pos,after,guard⟩:=o;simp only at v;subst v;obtain ⟨r,args,argTypes⟩:=c;unfold callee at j;simp only at j;cases r <;> simp only [reduceCtorEq] at j
  rename_i g
  have app : ∀ {as b : List V} {xs ys : Array Value},LRel w Z inj st.nx as xs→LRel w Z inj st.nx b ys→LRel w Z inj st.nx (as ++ b) (xs ++ ys):=by
    intro as b xs ys l p;refine ⟨by simp [l.1,p.1],fun i d c hd j=>?_⟩;by_cases hi : i < as.length
    · rw [List.getElem?_append_left hi] at hd;rw [Array.getElem?_append_left (by rw [← l.1];exact hi)] at j;exact l.2 i d c hd j
    · rw [List.getElem?_append_right q0] at hd;rw [Array.getElem?_append_right (by rw [← l.1];omega),← l.1] at j;exact p.2 _ d c hd j
  have y : (args.toList.map a.eval).toArray = args.map a.eval:=by apply Array.ext';simp
  split at j <;> simp at j
  · rename_i z b u s t;obtain ⟨rfl,rfl⟩:=j;have n:=Ka h s;generalize m : a.eval g = gv at n
    cases n with | d n=>
    cases n with | @fn _ _ cs l p=>
    have q:=q95 h t;rw [y] at q;refine ⟨args.map a.eval ++ cs,?_,app q ⟨by simpa using l,fun i d c hd j=>?_⟩⟩
    · simp [execOp,resolve,m,Deferred.ofValue,invoke,k]
    · simp only [List.getElem?_map,Y6] at hd;obtain ⟨d',hd,rfl⟩:=hd;exact .d (p i d' c hd j)
  · rename_i z b u s t;obtain ⟨rfl,rfl⟩:=j;have n:=Ka h s;generalize m : a.eval g = gv at n
    cases n with | @fn _ _ cs l p=>
    have q:=q95 h t;rw [y] at q;refine ⟨args.map a.eval ++ cs,?_,app q ⟨l,p⟩⟩;simp [execOp,resolve,m,Deferred.ofValue,invoke,k]
theorem qt3 {ops : Array Oper} {o : Oper} {c : Call} {f : FuncId} {j : List V} {v : V} {hp' : List (Nat × Blk)} {nx' : Nat} (t : Qt ops st o = some true) (d : o.op = .call c) (s : callee st c = some (f,j))
    (b : Jw P f j st.hp st.nx v hp' nx') : Jy P base ops o st ({sl:=st.sl,hp:=hp',nx:=nx' : AS}.putD o.dst v):=by
  intro ro Q w Z inj a Ds K h hd hb _ q;unfold Uy;rw [q41 h t];simp only [if_true];refine ⟨fun _ _=>trivial,?_⟩;obtain ⟨xs,n,k⟩:=qel h d s b.1;rw [show (Fw ro).round = ro from rfl,Oper.semAt_eq ro _ o (by rintro u g;rw [d] at g;cases g),n,Oper.uponIn_enter];refine ⟨fun h=>by simp [Fw] at h,?_⟩;refine CallsIn.mono (b.2 w Z inj xs h.heap k) ?_;rintro e w' ⟨x,Z',inj',rfl,p,m,r,l⟩;exact q _ _ (q45 h hb m p l r hd)
theorem qkn {ops : Array Oper} {o : Oper} {c : Call} {f : FuncId} {vs : List V} {ds : List DV} {v : V} {hp' : List (Nat × Blk)} {nx' : Nat} {r' r : DV} (hg : Qt ops st o = some true) (ho : o.op = .call c) (hc : callee st c = some (f,vs))
    (u : Ko st.hp vs = some ds) (g : Jw P f (ds.map .d) [] 0 v hp' nx') (y : toD hp' 8 v = some r') (aa : DLe r' r) (hs : vs.all V.isD = true∨r.scalar = true) : Jy P base ops o st (st.putD o.dst (.d r)):=by
  intro ro Q w Z inj a Ds K h hd hb _ hK;unfold Uy;rw [q41 h hg];simp only [if_true];refine ⟨fun _ _=>trivial,?_⟩;obtain ⟨xs,hr,hl⟩:=qel h ho hc g.1;rw [show (Fw ro).round = ro from rfl,Oper.semAt_eq ro _ o (by rintro c' h';rw [ho] at h';cases h'),hr,Oper.uponIn_enter];refine ⟨fun h=>by simp [Fw] at h,?_⟩;have j : ∀ (i : Inj) b,¬ im ([] : List (Nat × Blk)) i b:=by rintro i b ⟨n,blk,o,q,_⟩;simp [find] at q
  have keep : ∀ {Z0 : Nat→Prop} {w' : World} {Z' : Nat→Prop} {inj' : Inj},Ext w Z0 inj [] w' Z' inj' hp' 0→∀ b,b < w.heap.size→w'.heap[b]? = w.heap[b]?:=fun e b hb=>e.keep b hb (j _ b)
  have back : ∀ {Z0 : Nat→Prop} {w' : World} {Z' : Nat→Prop} {inj' : Inj} (k : Nat→Prop),Ext w Z0 inj [] w' Z' inj' hp' 0→(∀ b,Z b→k b)→(∀ b,k b→Z b∨w.heap.size≤b)→(∀ b,k b→∃ c e f,w'.heap[b]? = some (.cells c e f))→
      RelH w' k inj st.hp st.nx∧Ext w Z inj st.hp w' k inj st.hp st.nx:=by
    intro Z0 w' Z' inj' k e ab z t
    have hk:=keep e
    have hE : Ext w Z inj st.hp w' k inj st.hp st.nx:=⟨e.size,fun b hb _=>hk b hb,fun _ h=>.inl h,e.big,e.loops,ab,fun b hb=>(z b hb).elim .inl (fun h=>.inr (.inr h)),fun _ _=>rfl,e.tape,e.os,e.output,e.frz⟩
    refine ⟨⟨fun n b hn=>?_,h.heap.sep,?_,?_,t⟩,hE⟩
    · obtain ⟨q,h2⟩:=h.heap.blk n b hn
      refine ⟨q,h2.mono (hE.zkeep h.heap) ab e.big (fun _ _=>rfl) (Nat.le_refl _) q fun p hp ah=>hk _ (h.heap.im_lt ⟨n,b,p.2,hn,ah,hp⟩)⟩
    · intro n b p q h2 h3 hz
      rcases z _ hz with h4 | h4
      · exact h.heap.out n b p q h2 h3 h4
      · have:=h.heap.im_lt (b:=p.1) ⟨n,b,p.2,q,h2,h3⟩;omega
    · intro b hb
      obtain ⟨c,e',f',hc⟩:=t b hb
      exact Jb hc
  rcases hs with hs | hs
  ·
    have h0 : RelH w Z inj [] 0:=⟨fun _ _ h=>by simp [find] at h,fun _ _ _ _ _ _ h=>by simp [find] at h,fun _ _ _ h=>by simp [find] at h,h.heap.zs,h.heap.zc⟩
    refine CallsIn.mono (g.2 w Z inj xs h0 (qu2 u hs hl inj)) ?_;rintro e w' ⟨x,Z',inj',rfl,hh,l,hv,hn⟩;have hD:=(qbd hh 8 y hv).le aa
    obtain ⟨s,m⟩:=back (zAll w' Z' inj' hp') l (fun b hb=>.inl (l.zin b hb))
      (fun b hb=>by
        rcases hb with hb | ⟨hb,_⟩
        · rcases l.zout b hb with h | h | h
          · exact .inl h
          · exact absurd h (j _ _)
          · exact .inr h
        · rcases l.imm b hb with h | h
          · exact absurd h (j _ _)
          · exact .inr h)
      (fun b hb=>by
        rcases hb with hb | ⟨_,hb⟩
        · exact hh.zc b hb
        · exact hb)
    exact hK _ _ (q45 h hb m s (Nat.le_refl _) (.d hD) hd)
  ·
    have h0 : RelH w (zAll w Z inj st.hp) inj [] 0:=⟨fun _ _ h=>by simp [find] at h,fun _ _ _ _ _ _ h=>by simp [find] at h,fun _ _ _ h=>by simp [find] at h,
      fun b hb=>by
        rcases hb with hb | ⟨hb,_⟩
        · exact h.heap.zs b hb
        · exact h.heap.im_lt hb,
      fun b hb=>by
        rcases hb with hb | ⟨_,hb⟩
        · exact h.heap.zc b hb
        · exact hb⟩
    refine CallsIn.mono (g.2 w _ inj xs h0 (qu3 h.heap u hl inj)) ?_;rintro e w' ⟨x,Z',inj',rfl,hh,l,hv,hn⟩;have hD:=(qbd hh 8 y hv).le aa;obtain ⟨s,m⟩:=back Z l (fun _ h=>h) (fun _ h=>.inl h) (fun b hb=>by rw [keep l b (h.heap.zs b hb)];exact h.heap.zc b hb);exact hK _ _ (q45 h hb m s (Nat.le_refl _) (.d (qy0 hD hs)) hd)
end
end Go.Am
namespace Go.Am
open Go
variable {P : Program} {T : Tab}
section
variable {st st1 st2 : AS} {v : V}
theorem Yv {α : Type} {x : Option α} {f : α→V} : (x.map fun a=>(f a,st)) = some (v,st1)→st1 = st∧(x.map fun a=>(f a,st2)) = some (v,st2):=by
  cases x <;> simp
  rintro rfl rfl;simp
theorem qf8 {ev ev' : Operand→Option V} : ∀ {l : List (Nat × Operand)},(∀ x∈l.map (·.2),ev' x = ev x)→Je ev' l = Je ev l
  | [],_=>rfl
  | (i,o)::r,h=>by
    have c:=h o qd
    have b:=qf8 (l:=r) (fun x a=>h x (by simp at a ⊢;exact .inr a))
    simp only [Je,c,b]
theorem q94 {ev ev' : Operand→Option V} : ∀ {l : List Operand},(∀ x∈l,ev' x = ev x)→evL ev' l = evL ev l
  | [],_=>rfl
  | o::r,h=>by
    have b:=h o qd
    have a:=q94 (l:=r) (fun x c=>h x (by simp [c]))
    simp only [evL,b,a]
theorem qty {i : TI} (a : st2.hp = st.hp) : U9 st2 i v = U9 st i v:=by
  cases v <;> simp only [U9,AS.blk,a]
theorem qq9 {b : Builtin} {c : Array TypeId} {a : List V} (h : Y5 T st b c a = some (v,st1)) (hb : b = .len∨b = .min∨b = .max) : st1 = st∧Y5 T st2 b c a = some (v,st2):=by
  rcases hb with rfl | rfl | rfl
  · rcases a with _ | ⟨x,_ | ⟨y,r⟩⟩
    · simp [Y5] at h
    · simp only [Y5] at h ⊢;revert h;split
      · split
        · split
          · simp;rintro rfl rfl;simp
          · split <;> simp
            all_goals rintro rfl rfl;simp
          · split <;> simp
            all_goals rintro rfl rfl;simp
          · simp
        · simp
      · simp
    · simp [Y5] at h
  · rcases a with _ | ⟨x,r⟩
    · simp [Y5] at h
    · simp only [Y5] at h ⊢;revert h;exact Yv
  · rcases a with _ | ⟨x,r⟩
    · simp [Y5] at h
    · simp only [Y5] at h ⊢;revert h;exact Yv
theorem qgk {op : Op} (h : opFn T st op = some (v,st1)) (q : touch op≤1) (m : touch op≠0→st2.hp = st.hp) (a : ∀ x∈op.operands,st2.ev x = st.ev x) : st1 = st∧opFn T st2 op = some (v,st2):=by
  cases op <;> simp only [opFn,reduceCtorEq] at h <;> simp only [touch,Nat.reduceLeDiff] at q
  case move x=>
    simp only [opFn,a x (by simp [Op.operands])] at h ⊢;revert h;exact Yv
  case assign x=>
    simp only [opFn,a x (by simp [Op.operands])] at h ⊢;revert h;exact Yv
  case pick c x y=>
    simp only [opFn,a c (by simp [Op.operands]),a x (by simp [Op.operands]),a y (by simp [Op.operands])] at h ⊢;revert h;split
    · exact Yv
    · exact Yv
    · simp
  case load t p=>
    simp only [opFn,a p (by simp [Op.operands])] at h ⊢;revert h;split
    · rw [qty (m (by simp [touch]))];exact Yv
    · simp
  case lookup t x k ok=>
    have hb : ∀ n,st2.blk n = st.blk n:=fun n=>by simp only [AS.blk,m (by simp [touch])]
    simp only [opFn,a x (by simp [Op.operands]),a k (by simp [Op.operands]),hb] at h ⊢;revert h;split
    · split
      · split
        · simp only [Y6];rintro ⟨e,w,r⟩;cases r;exact ⟨rfl,e,w,rfl⟩
        · simp
      · simp
    · simp
  case build t ps=>
    have:=qf8 (ev:=st.ev) (ev':=st2.ev) (l:=ps.toList) (fun x g=>a x (by simpa [Op.operands] using g));simp only [opFn,this] at h ⊢;revert h;split
    · split
      · split
        · exact Yv
        · simp
      · simp
    · simp
  case binOp op t x y u=>
    simp only [opFn,a x (by simp [Op.operands]),a y (by simp [Op.operands])] at h ⊢;revert h;split
    · split
      · split
        · split <;> simp
          · rintro rfl rfl;simp
          · rintro rfl rfl;simp
        · simp
      · simp
    · exact Yv
    · split
      · exact Yv
      · simp
    · simp
  case unOp op t x=>
    simp only [opFn,a x (by simp [Op.operands])] at h ⊢;revert h;split
    · exact Yv
    · simp
  case convert s d x=>
    simp only [opFn,a x (by simp [Op.operands])] at h ⊢;revert h;split
    · split <;> simp
      rintro rfl rfl;simp
    · simp
  case makeFunc fn first caps=>
    cases fn <;> simp only [reduceCtorEq,opFn] at h ⊢
    have:=q94 (ev:=st.ev) (ev':=st2.ev) (l:=caps.toList) (fun x g=>a x (by simp [Op.operands] at g ⊢;exact .inr g));rw [this];revert h;split
    · exact Yv
    · simp
  case slice t x lo hi mx=>
    have hb : ∀ (d : Nat) (o : Option Operand),(o = lo∨o = hi)→bound st2 d o = bound st d o:=by
      rintro d o z
      cases o with
      | none=>rfl
      | some o=>
        simp only [bound];rw [a o (by rcases z with rfl | rfl <;> simp [Op.operands])]
    simp only [opFn,a x (by simp [Op.operands])] at h ⊢;revert h;split
    · split
      · split
        · rename_i n _;rw [hb 0 lo (.inl rfl),hb n hi (.inr rfl)];split
          · exact Yv
          · simp
        · simp
      · simp
    · simp
  case fieldAddr s p f=>
    simp only [opFn,a p (by simp [Op.operands])] at h ⊢;revert h;split
    · split
      · exact Yv
      · simp
    · simp
  case field s x f=>
    simp only [opFn,a x (by simp [Op.operands])] at h ⊢;revert h;split
    · split
      · split
        · exact Yv
        · simp
      · simp
    · simp
  case indexAddr t x ix=>
    simp only [opFn,a x (by simp [Op.operands]),a ix (by simp [Op.operands])] at h ⊢;revert h;split
    · exact Yv
    · simp
  case index t x ix=>
    simp only [opFn,a x (by simp [Op.operands]),a ix (by simp [Op.operands])] at h ⊢;revert h;split
    · split
      · split
        · split
          · exact Yv
          · simp
        · simp
      · split
        · exact Yv
        · simp
      · simp
    · simp
  case extract x k=>
    simp only [opFn,a x (by simp [Op.operands])] at h ⊢;revert h;split
    · exact Yv
    · exact Yv
    · simp
  case nilCheck x=>
    simp only [opFn,a x (by simp [Op.operands])] at h ⊢;revert h;split <;> simp
    all_goals rintro rfl rfl;simp
  case call c=>
    obtain ⟨j,args,argTypes⟩:=c;cases j <;> simp only [reduceCtorEq] at h
    rename_i b;have:=q94 (ev:=st.ev) (ev':=st2.ev) (l:=args.toList) (fun x g=>a x (by simpa [Op.operands,Call.operands] using g));simp only [opFn,this] at h ⊢;revert h;split
    · have hb : b = .len∨b = .min∨b = .max:=by
        revert q;cases b <;> simp
      intro h;exact qq9 h hb
    · simp
end
end Go.Am
namespace Go.Am
open Go
variable {P : Program} {T : Tab}
def qe4 (x : Fp) (st st2 : AS) : Prop:=(∀ m∈x.2,find st2.hp m = find st.hp m)∧match x.1 with
  | none=>∀ m,find st2.hp m = find st.hp m
  | some r=>∀ m∈r,find st2.hp m = find st.hp m
inductive Out (T : Tab) (st : AS) (op : Op) (v : V) (st1 : AS) : Prop
  | calm : st1.sl = st.sl→st1.nx = st.nx→(∀ m,m ∉ (fp st op).2→find st1.hp m = find st.hp m)→(∀ m,find st.hp m = none→find st1.hp m = none)→
      (∀ st2,(∀ x∈op.operands,st2.ev x = st.ev x)→qe4 (fp st op) st st2→∃ hp3,opFn T st2 op = some (v,⟨st2.sl,hp3,st2.nx⟩)∧(∀ m∈(fp st op).2,find hp3 m = find st1.hp m)∧(∀ m,m ∉ (fp st op).2→find hp3 m = find st2.hp m))→Out T st op v st1
  | new (mk : Nat→V) (b : Blk) (hp1 : List (Nat × Blk)) : ((∃ es,mk = fun n=>.ref n es 0 0)∨(∃ es l,mk = fun n=>.hs n es 0 l)∨(mk = fun n=>.mp n))→v = mk st.nx→st1 = ⟨st.sl,(st.nx,b)::hp1,st.nx + 1⟩→st.nx∈(fp st op).2→
      (∀ m,m ∉ (fp st op).2→find hp1 m = find st.hp m)→(∀ m,find st.hp m = none→find hp1 m = none)→
      (∀ st2,(∀ x∈op.operands,st2.ev x = st.ev x)→qe4 (fp st op) st st2→∃ hp3,opFn T st2 op = some (mk st2.nx,⟨st2.sl,(st2.nx,b)::hp3,st2.nx + 1⟩)∧(∀ m∈(fp st op).2,find hp3 m = find hp1 m)∧(∀ m,m ∉ (fp st op).2→find hp3 m = find st2.hp m)∧(∀ m c,find hp3 m = some c→c = .dead∨find st2.hp m = some c))→Out T st op v st1
section
variable {st st1 st2 : AS} {v : V}
theorem qtz {i : TI} {p : V} (b : ∀ m∈K7 p,find st2.hp m = find st.hp m) : U9 st2 i p = U9 st i p:=by
  cases p with
  | ref n es a j=>
    have : st2.blk n = st.blk n:=b n (by simp [K7]);simp only [U9,this]
  | d x=>cases x <;> rfl
  | _=>rfl
theorem qjb {x : V} (a : ∀ m∈K7 x,find st2.hp m = find st.hp m) : Zc st2 x = Zc st x:=by
  cases x with
  | hs n es o l=>
    have : st2.blk n = st.blk n:=a n (by simp [K7]);simp only [Zc,this]
  | d x=>cases x <;> rfl
  | _=>rfl
theorem qf3 {x : V} (a : ∀ m∈K7 x,find st2.hp m = find st.hp m) : Yx st2 x = Yx st x:=by
  cases x with
  | hs n es o l=>
    have : st2.blk n = st.blk n:=a n (by simp [K7]);simp only [Yx,this]
  | d x=>cases x <;> rfl
  | _=>rfl
theorem U7 {α : Type} {l : List (Nat × α)} {k t : Nat} {x : α} (h : k≠t) : find (repl l k x) t = find l t:=by rw [Z7,qq h]
theorem q5v {α : Type} {l : List (Nat × α)} {k t : Nat} {x : α} (h : find l t = none) : find (repl l k x) t = none:=by
  rw [Z7];split
  · rename_i e;subst e;rw [h];rfl
  · exact h
theorem q5u {l a : List (Nat × Blk)} {k t : Nat} {x : Blk} (h : find a t = find l t) : find (repl a k x) t = find (repl l k x) t:=by
  rw [Z7,Z7];split
  · rename_i e;subst e;rw [h]
  · exact h
theorem qxq {l : List (Nat × Blk)} {k m : Nat} {c : Blk} (h : find (repl l k .dead) m = some c) : c = .dead∨find l m = some c:=by
  rw [Z7] at h;split at h
  · cases a : find l k with
    | none=>rw [a] at h;cases h
    | some b=>rw [a] at h;cases h;exact .inl rfl
  · exact .inr h
theorem q133 {i : TI} {p y : V} (h : Ju st i p y = some st1) : ∃ n b,K7 p = [n]∧st1 = ⟨st.sl,repl st.hp n b,st.nx⟩∧∀ st2 : AS,find st2.hp n = find st.hp n→Ju st2 i p y = some ⟨st2.sl,repl st2.hp n b,st2.nx⟩:=by
  cases p with
  | ref n k a j=>
    simp only [Ju] at h;split at h
    · cases h
    · rename_i l;have key : ∀ b : Blk,∀ st2 : AS,st2.setBlk n b = ⟨st2.sl,repl st2.hp n b,st2.nx⟩:=fun _ _=>rfl;split at h
      · rename_i es xs hb;split at h
        · rename_i cs g f;split at h
          · rename_i c;split at h
            · rename_i ds hd;cases h;refine ⟨n,_,rfl,key _ _,fun st2 e=>?_⟩;have d : st2.blk n = st.blk n:=e;simp only [Ju,qq l,d,hb,g,f,qr c,hd];rfl
            · rename_i hd;cases h;refine ⟨n,_,rfl,key _ _,fun st2 e=>?_⟩;have d : st2.blk n = st.blk n:=e;simp only [Ju,qq l,d,hb,g,f,qr c,hd];rfl
          · cases h
        · cases h
      · rename_i es xs hb;split at h
        · rename_i cs g f;split at h
          · rename_i c;cases h;refine ⟨n,_,rfl,key _ _,fun st2 e=>?_⟩;have d : st2.blk n = st.blk n:=e;simp only [Ju,qq l,d,hb,g,f,qr c];rfl
          · cases h
        · cases h
      · cases h
  | _=>simp [Ju] at h
theorem qry {p y : V} (h : copyV st p y = some (v,st1)) : ∃ n b,K7 p = [n]∧st1 = ⟨st.sl,repl st.hp n b,st.nx⟩∧∀ st2 : AS,find st2.hp n = find st.hp n→(∀ m∈K7 y,find st2.hp m = find st.hp m)→copyV st2 p y = some (v,⟨st2.sl,repl st2.hp n b,st2.nx⟩):=by
  cases p with
  | hs n es o l=>
    simp only [copyV] at h;split at h
    · rename_i k xs ys hb d;split at h
      · rename_i f;cases h;refine ⟨n,_,rfl,rfl,fun st2 e c=>?_⟩;have a : st2.blk n = st.blk n:=e;simp only [copyV,a,hb,qf3 c,d,qr f];rfl
      · cases h
    · cases h
  | _=>simp [copyV] at h
theorem qrd {i : TI} {p : V} (h : U5 st i p = some (v,st1)) : (st1 = st∧∀ st2 : AS,U5 st2 i p = some (v,st2))∨
    ∃ n b,K7 p = [n]∧st1 = ⟨st.sl,repl st.hp n b,st.nx⟩∧∀ st2 : AS,find st2.hp n = find st.hp n→U5 st2 i p = some (v,⟨st2.sl,repl st2.hp n b,st2.nx⟩):=by
  cases p with
  | d x=>
    cases x <;> simp only [U5,reduceCtorEq,Option.some.injEq,Prod.mk.injEq] at h
    obtain ⟨rfl,rfl⟩:=h;exact .inl ⟨rfl,fun st2=>rfl⟩
  | hs n es o l=>
    right;simp only [U5] at h;split at h
    · rename_i k xs hb;split at h
      · rename_i c;cases h;refine ⟨n,_,rfl,rfl,fun st2 e=>?_⟩;have a : st2.blk n = st.blk n:=e;simp only [U5,a,hb,qr c];rfl
      · cases h
    · cases h
  | _=>simp [U5] at h
theorem qpx {i : TI} {p y : V} (h : Z6 st i p y = some (v,st1)) :
    (st1 = st∧∀ st2 : AS,(∀ m∈K7 p ++ K7 y,find st2.hp m = find st.hp m)→Z6 st2 i p y = some (v,st2))∨
    (∃ es l b hp1,v = .hs st.nx es 0 l∧st1 = ⟨st.sl,(st.nx,b)::hp1,st.nx + 1⟩∧((hp1 = st.hp∧∀ st2 : AS,(∀ m∈K7 p ++ K7 y,find st2.hp m = find st.hp m)→Z6 st2 i p y = some (.hs st2.nx es 0 l,⟨st2.sl,(st2.nx,b)::st2.hp,st2.nx + 1⟩))∨
      (∃ n,n∈K7 p∧hp1 = repl st.hp n .dead∧∀ st2 : AS,(∀ m∈K7 p ++ K7 y,find st2.hp m = find st.hp m)→Z6 st2 i p y = some (.hs st2.nx es 0 l,⟨st2.sl,(st2.nx,b)::repl st2.hp n .dead,st2.nx + 1⟩)))):=by
  cases p with
  | d x=>
    cases x <;> simp only [Z6,reduceCtorEq] at h
    have c : ∀ st2 : AS,(∀ m∈K7 (.d .nilsl) ++ K7 y,find st2.hp m = find st.hp m)→Yx st2 y = Yx st y∧Zc st2 y = Zc st y:=fun st2 e=>
      ⟨qf3 fun m g=>e m (by simp [g]),qjb fun m g=>e m (by simp [g])⟩
    split at h
    · rename_i ys hd;split at h
      · rename_i a;split at h
        · rename_i q;cases h;refine .inl ⟨rfl,fun st2 e=>?_⟩;simp only [Z6,(c st2 e).1,hd,qr a,qr q]
        · rename_i q;cases h;refine .inr ⟨_,_,_,_,rfl,rfl,.inl ⟨rfl,fun st2 e=>?_⟩⟩;simp only [Z6,(c st2 e).1,hd,qr a,qq q];rfl
      · cases h
    · rename_i hd;split at h
      · rename_i ys f;split at h
        · rename_i a;split at h
          · rename_i q;cases h;refine .inl ⟨rfl,fun st2 e=>?_⟩;simp only [Z6,(c st2 e).1,(c st2 e).2,hd,f,qr a,qr q]
          · rename_i q;cases h;refine .inr ⟨_,_,_,_,rfl,rfl,.inl ⟨rfl,fun st2 e=>?_⟩⟩;simp only [Z6,(c st2 e).1,(c st2 e).2,hd,f,qr a,qq q];rfl
        · cases h
      · cases h
  | hs n es o l=>
    have c : ∀ st2 : AS,(∀ m∈K7 (.hs n es o l) ++ K7 y,find st2.hp m = find st.hp m)→Yx st2 y = Yx st y∧Zc st2 y = Zc st y∧st2.blk n = st.blk n:=fun st2 e=>
      ⟨qf3 fun m g=>e m (by simp [g]),qjb fun m g=>e m (by simp [g]),e n (by simp [K7])⟩
    simp only [Z6] at h;split at h
    · rename_i k xs ys hb hd;split at h
      · rename_i f;cases h;refine .inr ⟨_,_,_,_,rfl,rfl,.inr ⟨n,by simp [K7],rfl,fun st2 e=>?_⟩⟩;obtain ⟨s,_,r⟩:=c st2 e;simp only [Z6,s,r,hb,hd,qr f];rfl
      · cases h
    · rename_i k xs hb hd;split at h
      · rename_i ys j;split at h
        · rename_i f;cases h;refine .inr ⟨_,_,_,_,rfl,rfl,.inr ⟨n,by simp [K7],rfl,fun st2 e=>?_⟩⟩;obtain ⟨s,t,r⟩:=c st2 e;simp only [Z6,s,t,r,hb,hd,j,qr f];rfl
        · cases h
      · cases h
    · rename_i k xs hb;split at h
      · rename_i ys j;split at h
        · rename_i f;cases h;refine .inr ⟨_,_,_,_,rfl,rfl,.inr ⟨n,by simp [K7],rfl,fun st2 e=>?_⟩⟩;obtain ⟨s,t,r⟩:=c st2 e;simp only [Z6,s,t,r,hb,j,qr f];rfl
        · cases h
      · cases h
    · cases h
  | _=>simp [Z6] at h
theorem qcl {op : Op} (h : opFn T st op = some (v,st1)) (a : touch op = 0) : Out T st op v st1:=by
  have g:=(qgk (st2:=st) h q0 (fun e=>absurd a e) (fun _ _=>rfl)).1;subst g;refine .calm rfl rfl (fun _ _=>rfl) (fun _ h=>h) fun st2 f d=>?_;have c:=(qgk (st2:=st2) h q0 (fun e=>absurd a e) f).2;exact ⟨st2.hp,c,fun m b=>d.1 m b,fun _ _=>rfl⟩
theorem qvy {t : TypeId} {p : Operand} (h : opFn T st (.load t p) = some (v,st1)) : Out T st (.load t p) v st1:=by
  simp only [opFn] at h
  cases b : T t with
  | none=>simp [b] at h
  | some i=>
    cases hp : st.ev p with
    | none=>simp [b,hp] at h
    | some x=>
      simp only [b,hp] at h;obtain ⟨rfl,g⟩:=Yv (st2:=st) h;have a : fp st1 (.load t p) = (some (K7 x),[]):=by simp only [fp,hp]
      refine .calm rfl rfl (fun _ _=>rfl) (fun _ h=>h) fun st2 f d=>?_;rw [a] at d;refine ⟨st2.hp,?_,fun m c=>by rw [a] at c;simp at c,fun _ _=>rfl⟩;simp only [opFn,b,f p (by simp [Op.operands]),hp,qtz (st:=st1) (st2:=st2) d.2];simp_all
theorem q9k {op : Op} {mk : Nat→V} {b : Blk} (o : (∃ es,mk = fun n=>.ref n es 0 0)∨(∃ es l,mk = fun n=>.hs n es 0 l)∨(mk = fun n=>.mp n)) (p : v = mk st.nx) (g : st1 = st.new b) (d : fp st op = (some [],[st.nx]))
    (f : ∀ st2 : AS,(∀ x∈op.operands,st2.ev x = st.ev x)→opFn T st2 op = some (mk st2.nx,st2.new b)) : Out T st op v st1:=by
  refine .new mk b st.hp o p g (by rw [d];simp) (fun _ _=>rfl) (fun _ h=>h) fun st2 k j=>⟨st2.hp,f st2 k,fun m a=>j.1 m a,fun _ _=>rfl,fun m c q=>.inr q⟩
theorem qw1 {t : TypeId} {p x : Operand} (h : opFn T st (.store t p x) = some (v,st1)) : Out T st (.store t p x) v st1:=by
  simp only [opFn] at h
  cases c : T t with
  | none=>simp [c] at h
  | some i=>
    cases hp : st.ev p with
    | none=>simp [c,hp] at h
    | some pv=>
      cases j : st.ev x with
      | none=>simp [c,hp,j] at h
      | some xv=>
        simp only [c,hp,j] at h
        cases hs : Ju st i pv xv with
        | none=>simp [hs] at h
        | some r=>
          simp only [hs,Option.map_some,Option.some.injEq,Prod.mk.injEq] at h;obtain ⟨rfl,rfl⟩:=h;obtain ⟨n,b,l,rfl,d⟩:=q133 hs;have f : fp st (.store t p x) = (some [n],[n]):=by simp only [fp,hp,l]
          refine .calm rfl rfl (fun m a=>?_) (fun m a=>q5v a) fun st2 k g=>?_
          · rw [f] at a;exact U7 (by simp at a;omega)
          · rw [f] at g ⊢;refine ⟨repl st2.hp n b,?_,fun m a=>q5u (g.1 m a),fun m a=>U7 (by simp at a;omega)⟩;simp only [opFn,c,k p (by simp [Op.operands]),k x (by simp [Op.operands]),hp,j,d st2 (g.1 n qd),Option.map_some]
theorem qsp {args : Array Operand} {ats : Array TypeId} {s x : V} (h : evL st.ev args.toList = some [s,x]) : fp st (.call {callee:=.builtin .append,args:=args,argTypes:=ats}) = (some (K7 s ++ K7 x),st.nx::K7 s):=by
  simp only [fp,h]
theorem qsr {args : Array Operand} {ats : Array TypeId} {s x : V} (h : evL st.ev args.toList = some [s,x]) : fp st (.call {callee:=.builtin .copy,args:=args,argTypes:=ats}) = (some (K7 s ++ K7 x),K7 s):=by
  simp only [fp,h]
theorem qsq {args : Array Operand} {ats : Array TypeId} {x : V} (h : evL st.ev args.toList = some [x]) : fp st (.call {callee:=.builtin .clear,args:=args,argTypes:=ats}) = (some (K7 x),K7 x):=by
  simp only [fp,h]
theorem qss {args : Array Operand} {ats : Array TypeId} {m k : V} (h : evL st.ev args.toList = some [m,k]) : fp st (.call {callee:=.builtin .delete,args:=args,argTypes:=ats}) = (some (K7 m),K7 m):=by
  simp only [fp,h]
theorem qvz {t : TypeId} {x k : Operand} {ok : Bool} (h : opFn T st (.lookup t x k ok) = some (v,st1)) : Out T st (.lookup t x k ok) v st1:=by
  have w:=h;simp only [opFn] at h;split at h <;> try simp only [reduceCtorEq] at h
  rename_i i n j s g o;split at h <;> try simp only [reduceCtorEq] at h
  rename_i ks es z q r u;split at h <;> try simp only [reduceCtorEq] at h
  rename_i p
  cases b : mget i.eagg ks z j es with
  | none=>rw [b] at h;simp at h
  | some e=>
    rw [b] at h;simp only [Option.map_some,Option.some.injEq,Prod.mk.injEq] at h;obtain ⟨rfl,rfl⟩:=h;have a : fp st (.lookup t x k ok) = (some [n],[]):=by simp only [fp,g];rfl
    refine .calm rfl rfl (fun _ _=>rfl) (fun _ h=>h) fun st2 f d=>?_;rw [a] at d;have l : st2.blk n = st.blk n:=d.2 n qd;refine ⟨st2.hp,?_,fun m c=>by rw [a] at c;simp at c,fun _ _=>rfl⟩;simp only [opFn,s,f x (by simp [Op.operands]),f k (by simp [Op.operands]),g,o,q,l,r,u,qr p,b,Option.map_some]
theorem qw0 {t : TypeId} {m k x : Operand} (h : opFn T st (.mapUpdate t m k x) = some (v,st1)) : Out T st (.mapUpdate t m k x) v st1:=by
  simp only [opFn] at h;split at h <;> try simp only [reduceCtorEq] at h
  rename_i i n o l w j q g;split at h <;> try simp only [reduceCtorEq] at h
  rename_i ks es s u;split at h <;> try simp only [reduceCtorEq] at h
  rename_i r
  cases c : mput i.eagg ks o l es with
  | none=>rw [c] at h;simp at h
  | some es'=>
    rw [c] at h;simp only [Option.map_some,Option.some.injEq,Prod.mk.injEq] at h;obtain ⟨rfl,rfl⟩:=h;have b : fp st (.mapUpdate t m k x) = (some [n],[n]):=by simp only [fp,j];rfl
    refine .calm rfl rfl (fun m a=>?_) (fun m a=>q5v a) fun st2 f d=>?_
    · rw [b] at a;exact U7 (by simp at a;omega)
    · rw [b] at d ⊢;have p : st2.blk n = st.blk n:=d.1 n qd;refine ⟨repl st2.hp n (.mp es'),?_,fun m a=>q5u (d.1 m a),fun m a=>U7 (by simp at a;omega)⟩;simp only [opFn,w,f m (by simp [Op.operands]),f k (by simp [Op.operands]),f x (by simp [Op.operands]),j,q,g,s,p,u,qr r,c,Option.map_some];rfl
theorem qvx {b : Builtin} {args : Array Operand} {ats : Array TypeId} (h : opFn T st (.call {callee:=.builtin b,args:=args,argTypes:=ats}) = some (v,st1)) : Out T st (.call {callee:=.builtin b,args:=args,argTypes:=ats}) v st1:=by
  have h0:=h;simp only [opFn] at h
  cases hv : evL st.ev args.toList with
  | none=>simp [hv] at h
  | some vs=>
    simp only [hv] at h
    have q : ∀ st2 : AS,(∀ x∈(Op.call {callee:=.builtin b,args:=args,argTypes:=ats}).operands,st2.ev x = st.ev x)→evL st2.ev args.toList = some vs:=fun st2 g=>by
      rw [q94 fun x hx=>g x (by simpa [Op.operands,Call.operands] using hx)];exact hv
    cases b
    case append=>
      match vs,h with
      | [s,x],h=>
        have o:=qsp (ats:=ats) hv;simp only [Y5] at h;split at h
        · rename_i t u y e2;split at h
          · rename_i i j z e4;split at h
            · rename_i r
              have p : ∀ st2 : AS,(∀ x∈(Op.call {callee:=.builtin .append,args:=args,argTypes:=ats}).operands,st2.ev x = st.ev x)→opFn T st2 (.call {callee:=.builtin .append,args:=args,argTypes:=ats}) = Z6 st2 i s x:=fun st2 g=>by
                simp only [opFn,q st2 g,Y5,y,e2,z,e4,qr r]
              rcases qpx h with ⟨rfl,d⟩ | ⟨es,l,b,hp1,rfl,rfl,⟨rfl,d⟩ | ⟨n,w,rfl,d⟩⟩
              · refine .calm rfl rfl (fun _ _=>rfl) (fun _ h=>h) fun st2 g f=>?_;rw [o] at f;exact ⟨st2.hp,(p st2 g).trans (d st2 f.2),fun m a=>f.1 m (by rw [o] at a;exact a),fun _ _=>rfl⟩
              · refine .new (fun n=>.hs n es 0 l) b _ (.inr (.inl ⟨_,_,rfl⟩)) rfl rfl (by rw [o];simp) (fun _ _=>rfl) (fun _ h=>h) fun st2 g f=>?_;rw [o] at f;exact ⟨st2.hp,(p st2 g).trans (d st2 f.2),fun m a=>f.1 m (by rw [o] at a;exact a),fun _ _=>rfl,fun m c r=>.inr r⟩
              · have ab : ∀ m,m ∉ (fp st (.call {callee:=.builtin .append,args:=args,argTypes:=ats})).2→n≠m:=fun m a e=>by
                  rw [o] at a;exact a (by rw [← e];simp [w])
                refine .new (fun n=>.hs n es 0 l) b _ (.inr (.inl ⟨_,_,rfl⟩)) rfl rfl (by rw [o];simp) (fun m a=>U7 (ab m a)) (fun m a=>q5v a) fun st2 g f=>?_;rw [o] at f;exact ⟨repl st2.hp n .dead,(p st2 g).trans (d st2 f.2),fun m a=>q5u (f.1 m (by rw [o] at a;exact a)),fun m a=>U7 (ab m a),fun m c r=>qxq r⟩
            · cases h
          · cases h
        · cases h
    case copy=>
      match vs,h with
      | [s,x],h=>
        have o:=qsr (ats:=ats) hv;simp only [Y5] at h;split at h
        · rename_i t u y e2;split at h
          · rename_i i j z e4;split at h
            · rename_i r
              have p : ∀ st2 : AS,(∀ x∈(Op.call {callee:=.builtin .copy,args:=args,argTypes:=ats}).operands,st2.ev x = st.ev x)→opFn T st2 (.call {callee:=.builtin .copy,args:=args,argTypes:=ats}) = copyV st2 s x:=fun st2 g=>by
                simp only [opFn,q st2 g,Y5,y,e2,z,e4,qr r]
              obtain ⟨n,b,w,rfl,d⟩:=qry h;refine .calm rfl rfl (fun m a=>?_) (fun m a=>q5v a) fun st2 g f=>?_
              · rw [o,w] at a;exact U7 (by simp at a;omega)
              · rw [o] at f ⊢;refine ⟨repl st2.hp n b,(p st2 g).trans (d st2 (f.1 n (by simp [w])) fun m a=>f.2 m (by simp [a])),fun m a=>q5u (f.1 m a),fun m a=>U7 (by rw [w] at a;simp at a;omega)⟩
            · cases h
          · cases h
        · cases h
    case clear=>
      match vs,h with
      | [x],h=>
        have o:=qsq (ats:=ats) hv;simp only [Y5] at h;split at h
        · rename_i t y;split at h
          · rename_i i z;split at h
            · rename_i r
              have p : ∀ st2 : AS,(∀ x∈(Op.call {callee:=.builtin .clear,args:=args,argTypes:=ats}).operands,st2.ev x = st.ev x)→opFn T st2 (.call {callee:=.builtin .clear,args:=args,argTypes:=ats}) = U5 st2 i x:=fun st2 g=>by
                simp only [opFn,q st2 g,Y5,y,z,qr r]
              rcases qrd h with ⟨rfl,d⟩ | ⟨n,b,w,rfl,d⟩
              · refine .calm rfl rfl (fun _ _=>rfl) (fun _ h=>h) fun st2 g f=>?_;rw [o] at f;exact ⟨st2.hp,(p st2 g).trans (d st2),fun m a=>f.1 m (by rw [o] at a;exact a),fun _ _=>rfl⟩
              · refine .calm rfl rfl (fun m a=>?_) (fun m a=>q5v a) fun st2 g f=>?_
                · rw [o,w] at a;exact U7 (by simp at a;omega)
                · rw [o] at f ⊢;refine ⟨repl st2.hp n b,(p st2 g).trans (d st2 (f.1 n (by simp [w]))),fun m a=>q5u (f.1 m a),fun m a=>U7 (by rw [w] at a;simp at a;omega)⟩
            · cases h
          · cases h
        · cases h
    case delete=>
      match vs,h with
      | [m,k],h=>
        have o:=qss (ats:=ats) hv;simp only [Y5] at h;split at h <;> try simp only [reduceCtorEq] at h
        rename_i t n kd y;split at h <;> try simp only [reduceCtorEq] at h
        rename_i i es e2 z;split at h <;> try simp only [reduceCtorEq] at h
        rename_i ks e4;split at h <;> try simp only [reduceCtorEq] at h
        rename_i e5
        cases hg : mdel i.eagg ks kd es with
        | none=>rw [hg] at h;simp at h
        | some es'=>
          rw [hg] at h;simp only [Option.map_some,Option.some.injEq,Prod.mk.injEq] at h;obtain ⟨rfl,rfl⟩:=h;refine .calm rfl rfl (fun m a=>?_) (fun m a=>q5v a) fun st2 g f=>?_
          · rw [o] at a;exact U7 (by simp [K7] at a;omega)
          · rw [o] at f ⊢;have e' : st2.blk n = st.blk n:=f.1 n (by simp [K7]);refine ⟨repl st2.hp n (.mp es'),?_,fun m a=>q5u (f.1 m a),fun m a=>U7 (by simp [K7] at a;omega)⟩;simp only [opFn,q st2 g,Y5,y,e2,e',z,e4,qr e5,hg,Option.map_some];rfl
    case len=>exact qcl h0 rfl
    case min=>exact qcl h0 rfl
    case max=>exact qcl h0 rfl
    all_goals simp [Y5] at h
theorem qm8 {op : Op} (h : opFn T st op = some (v,st1)) : Out T st op v st1:=by
  cases op
  case load t p=>exact qvy h
  case store t p x=>exact qw1 h
  case call c=>
    obtain ⟨s,args,ats⟩:=c
    cases s with
    | builtin b=>exact qvx h
    | value f=>simp [opFn] at h
    | invoke r n=>simp [opFn] at h
  case alloc t=>
    simp only [opFn] at h
    cases a : T t with
    | none=>simp [a] at h
    | some i=>
      simp only [a,Option.map_some,Option.some.injEq,Prod.mk.injEq] at h;obtain ⟨rfl,rfl⟩:=h;exact q9k (mk:=fun n=>.ref n i.size 0 0) (.inl ⟨_,rfl⟩) rfl rfl rfl fun st2 _=>by simp only [opFn,a];rfl
  case box t x=>
    simp only [opFn] at h
    cases a : T t with
    | none=>simp [a] at h
    | some i=>
      cases g : st.ev x with
      | none=>simp [a,g] at h
      | some xv=>
        simp only [a,g] at h;split at h
        · rename_i o;simp only [Option.some.injEq,Prod.mk.injEq] at h;obtain ⟨rfl,rfl⟩:=h;exact q9k (mk:=fun n=>.ref n i.size 0 0) (.inl ⟨_,rfl⟩) rfl rfl rfl fun st2 j=>by simp only [opFn,a,j x (by simp [Op.operands]),g,qr o]
        · cases h
  case buildSlice t len ps=>
    simp only [opFn] at h
    cases a : T t with
    | none=>simp [a] at h
    | some i=>
      cases g : Je st.ev ps.toList with
      | none=>simp [a,g] at h
      | some vs=>
        simp only [a,g] at h;split at h
        · rename_i l z;split at h
          · rename_i o
            cases u : q3x (List.replicate len (i.ezero.map .d)) l with
            | none=>simp [u] at h
            | some xs=>
              simp only [u,Option.map_some,Option.some.injEq,Prod.mk.injEq] at h;obtain ⟨rfl,rfl⟩:=h
              exact q9k (mk:=fun n=>.hs n i.esize 0 len) (.inr (.inl ⟨_,_,rfl⟩)) rfl rfl rfl fun st2 j=>by
                have e:=qf8 (ev:=st.ev) (ev':=st2.ev) (l:=ps.toList) (fun x g=>j x (by simpa [Op.operands] using g));simp only [opFn,a,e,g,z,qr o,u,Option.map_some]
          · cases h
        · cases h
  case makeSlice t l c=>
    have h':=h;simp only [opFn] at h;split at h
    · rename_i i k n k' m w e2 y;split at h
      · rename_i o;simp only [Option.some.injEq,Prod.mk.injEq] at h;obtain ⟨rfl,rfl⟩:=h
        exact q9k (mk:=fun q=>.hs q i.esize 0 n.toNat) (.inr (.inl ⟨_,_,rfl⟩)) rfl rfl rfl fun st2 j=>by
          simp only [opFn,w,j l (by simp [Op.operands]),j c (by simp [Op.operands]),e2,y,qr o]
      · cases h
    · cases h
  case lookup=>exact qvz h
  case mapUpdate=>exact qw0 h
  case makeMap t r=>
    have h':=h;simp only [opFn] at h;split at h <;> try simp only [reduceCtorEq] at h
    rename_i i w;split at h <;> try simp only [reduceCtorEq] at h
    rename_i hk;simp only [Option.some.injEq,Prod.mk.injEq] at h;obtain ⟨rfl,rfl⟩:=h;exact q9k (mk:=fun n=>.mp n) (.inr (.inr rfl)) rfl rfl rfl fun st2 _=>by simp only [opFn,w,qr hk]
  all_goals first | exact qcl h rfl | (simp [opFn] at h;done)
end
end Go.Am
