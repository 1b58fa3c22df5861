/- Sw12 -/
import Derived.Test.YtbknppciefodiaaGreatK12
namespace Go.Sh
open Go Go.Am
def Zl (x : Int) (n : Nat) : qg:=bx x 0 (2 * (n : Int)) (x + 1) 1 (2 * (n : Int) + 1)
def tall (x : Int) : List qg:=(List.range 200).map (Zl x)
def two (x y : Int) : List qg:=(List.range 200).flatMap fun n=>[Zl x n,Zl y n]
def three : List qg:=(List.range 200).flatMap fun n=>[Zl 0 n,Zl 2 n,Zl 4 n]
theorem qzt : loop q4q (0,[]) = some (tall 0):=by
  have key:=J1 (f:=q4q) (fun k=>((k : Int),(List.range k).map (Zl 0))) 200 (tall 0) (fun k a=>by
    have hd : decide ((k : Int) < 200) = true:=Q9 q0;simp only [q4q,hd,Q2,w64s a (show 200≤1000000 by omega)]
    rw [Qe (x:=2 * (k : Int)) q0,Qe (x:=2 * (k : Int) + 1) q0,Zf (by simp;omega),List.range_succ,List.map_append];rfl) rfl (Nat.zero_le _)
  exact key
theorem qds (p : Int) (x y z : Int) : hasB (tall p) x y z↔∃ n,n < 200∧inB (Zl p n) x y z:=by
  constructor
  · rintro ⟨b,hb,h⟩;obtain ⟨n,a,rfl⟩:=List.mem_map.1 hb;exact ⟨n,List.mem_range.1 a,h⟩
  · rintro ⟨n,a,h⟩;exact ⟨_,List.mem_map.2 ⟨n,List.mem_range.2 a,rfl⟩,h⟩
theorem qid (p q : Int) (x y z : Int) : hasB (two p q) x y z↔∃ n,n < 200∧(inB (Zl p n) x y z∨inB (Zl q n) x y z):=by
  constructor
  · rintro ⟨b,hb,h⟩;obtain ⟨n,a,hb⟩:=List.mem_flatMap.1 hb;simp only [List.mem_cons,List.not_mem_nil,or_false] at hb;rcases hb with rfl | rfl
    · exact ⟨n,List.mem_range.1 a,.inl h⟩
    · exact ⟨n,List.mem_range.1 a,.inr h⟩
  · rintro ⟨n,a,h | h⟩
    · exact ⟨_,List.mem_flatMap.2 ⟨n,List.mem_range.2 a,qe⟩,h⟩
    · exact ⟨Zl q n,List.mem_flatMap.2 ⟨n,List.mem_range.2 a,qe⟩,h⟩
theorem qq3 (x y z : Int) : hasB three x y z↔∃ n,n < 200∧(inB (Zl 0 n) x y z∨inB (Zl 2 n) x y z∨inB (Zl 4 n) x y z):=by
  constructor
  · rintro ⟨b,hb,h⟩;obtain ⟨n,a,hb⟩:=List.mem_flatMap.1 hb;simp only [List.mem_cons,List.not_mem_nil,or_false] at hb;rcases hb with rfl | rfl | rfl
    · exact ⟨n,List.mem_range.1 a,.inl h⟩
    · exact ⟨n,List.mem_range.1 a,.inr (.inl h)⟩
    · exact ⟨n,List.mem_range.1 a,.inr (.inr h)⟩
  · rintro ⟨n,a,h | h | h⟩
    · exact ⟨_,List.mem_flatMap.2 ⟨n,List.mem_range.2 a,qe⟩,h⟩
    · exact ⟨Zl 2 n,List.mem_flatMap.2 ⟨n,List.mem_range.2 a,qe⟩,h⟩
    · exact ⟨Zl 4 n,List.mem_flatMap.2 ⟨n,List.mem_range.2 a,qe⟩,h⟩
theorem qzu : ((∀ b∈tall 0,vB b)∧isB (tall 0))∧((∀ b∈tall 2,vB b)∧isB (tall 2))∧((∀ b∈tall 4,vB b)∧isB (tall 4)):=by decide +kernel
theorem qmk : (∀ b∈two 0 2,vB b)∧isB (two 0 2):=by decide +kernel
theorem qmd : isB three∧three.length = 600:=by decide +kernel
theorem qmj : (two 0 2).length = 400:=by decide +kernel
theorem q6r (x : Int) : (tall x).length = 200:=by simp [tall]
theorem qqd {kind : Int} {p q out : List qg} (hp : Qt p = 0) (a : Qt q = 0) (b : CanB out) (c : 400 < out.length) (d : ∀ x y z,Yc kind (hasB p x y z) (hasB q x y z)↔hasB out x y z) : jB kind p q = ([],4):=by
  have f:=(Yo.1 hp).1;have g:=(Yo.1 a).1;have e:=qee (kind:=kind) (p:=p) (q:=q) q0 b d;unfold jB;rw [ql (by simp [hp]),ql (by simp [a]),e,qm c]
theorem qcj (x : Int) (h : (∀ b∈tall x,vB b)∧isB (tall x)) : barB [tall 0] (ln x 0 x 0 0) = (tall x,0):=by
  have e : (tall 0).map (swp (ln x 0 x 0 0).From (ln x 0 x 0 0).To) = tall x:=by
    unfold tall;rw [List.map_map];refine List.map_congr_left fun n _=>?_;simp only [Function.comp,swp,Zl,bx,ln,qg.mk.injEq,qz.mk.injEq];omega
  have a : q26 [tall 0] (ln x 0 x 0 0) = tall 0:=rfl;unfold barB;rw [a];exact q74 e ⟨by rw [q6r];omega,h.1,by rw [q6r];omega⟩ h.2 fun x y z=>Iff.rfl
theorem many : Uy (partT [ln 0 0 0 0 0,ln 2 0 2 0 0,ln 4 0 4 0 0]) [tall 0] = ([],4):=by
  obtain ⟨a,f,d⟩:=qzu;have c0 : Qt (tall 0) = 0:=Jr ⟨by rw [q6r];omega,a⟩;have c2 : Qt (tall 2) = 0:=Jr ⟨by rw [q6r];omega,f⟩;have c4 : Qt (tall 4) = 0:=Jr ⟨by rw [q6r];omega,d⟩;have k : Qt (two 0 2) = 0:=Jr ⟨by rw [qmj];omega,qmk⟩
  have hb:=q75 (g:=fun l=>tall l.From.X) (qab (bs:=[tall 0]) (ls:=[ln 0 0 0 0 0,ln 2 0 2 0 0,ln 4 0 4 0 0]) qo qo (by simp [c0])) (fun l b=>by
    simp only [partT,List.mem_cons,List.not_mem_nil,or_false] at b;rcases b with rfl | rfl | rfl
    · exact qcj 0 a
    · exact qcj 2 f
    · exact qcj 4 d)
  have e : (partT [ln 0 0 0 0 0,ln 2 0 2 0 0,ln 4 0 4 0 0]).Lines.map (fun l=>tall l.From.X) = [tall 0,tall 2,tall 4]:=rfl;rw [qfi hb,e];have j : jB 2 [] (tall 0) = (tall 0,0):=q7l q77 c0 a.2.can (by rw [q6r];omega) fun x y z=>by rw [Us];simp [q2k]
  have m : jB 2 (tall 0) (tall 2) = (two 0 2,0):=q7l c0 c2 qmk.2.can (by rw [qmj];omega) fun x y z=>by
    rw [Us,qds,qds,qid];constructor
    · rintro (⟨n,h,g⟩ | ⟨n,h,g⟩)
      · exact ⟨n,h,.inl g⟩
      · exact ⟨n,h,.inr g⟩
    · rintro ⟨n,h,g | g⟩
      · exact .inl ⟨n,h,g⟩
      · exact .inr ⟨n,h,g⟩
  have c : jB 2 (two 0 2) (tall 4) = ([],4):=qqd k c4 qmd.1.can (by rw [qmd.2];omega) fun x y z=>by
    rw [Us,qds,qid,qq3];constructor
    · rintro (⟨n,h,g | g⟩ | ⟨n,h,g⟩)
      · exact ⟨n,h,.inl g⟩
      · exact ⟨n,h,.inr (.inl g)⟩
      · exact ⟨n,h,.inr (.inr g)⟩
    · rintro ⟨n,h,g | g | g⟩
      · exact .inl ⟨n,h,.inl g⟩
      · exact .inl ⟨n,h,.inr g⟩
      · exact .inr ⟨n,h,g⟩
  rw [q7m j,q7m m,Y3,qm (by rw [c];decide),c]
theorem qga : Qt [bx 0 0 0 0 0 0] = 8:=by
  unfold Qt;rw [ql qo,ql qo]
theorem q110 : qap = some true:=by
  have n1 : barT (ln 0 0 1 1 0) ub = ([],8):=by
    have : ¬ TOk (oneT (ln 0 0 1 1 0)):=fun h=>absurd (h.2.1 (ln 0 0 1 1 0) (by simp [oneT])) qo;unfold barT;rw [qm this]
  have v : barT (ln 0 0 1 0 0) [bx 0 0 0 0 0 0] = ([],8):=by
    have : TOk (oneT (ln 0 0 1 0 0)):=⟨⟨by simp [oneT],by simp [oneT],qc7⟩,fun k p=>by simp [oneT] at p;subst p;decide,fun m n=>by simp [oneT] at n⟩
    unfold barT;rw [ql (not_not_intro this),qga,qm qo]
  have s : barT (ln 999999 0 1000000 0 0) ub = ([],16):=by
    rw [qci qo q4a];unfold barS;rw [ql qo]
  have n4 : barT (ln 999999 0 999999 0 0) ub = ([bx 999999 0 0 1000000 1 1],0):=by
    rw [qci qo q4a];exact q74 (m:=[bx 999999 0 0 1000000 1 1]) rfl qo qo fun x y z=>Iff.rfl
  have j : ∀ ls : List Qo,ls.length≤2000→(∀ l∈ls,LOk l)→TOk (partT ls):=fun ls d c=>⟨⟨d,by simp [partT],qc7⟩,c,fun m n=>by simp [partT] at n⟩
  have n5 : Kl (partT [ln 0 0 1 0 0]) [] = ([],6):=by
    have : chkS (partT [ln 0 0 1 0 0]) [] = 6:=by
      unfold chkS;rw [ql (not_not_intro (j _ qo qo)),ql qo,ql (by simp [badB]),qm qo]
    unfold Kl;rw [this,qm qo]
  have n6 : Kl (partT [ln 0 0 1 0 0]) (List.replicate 21 []) = ([],4):=by
    have : chkS (partT [ln 0 0 1 0 0]) (List.replicate 21 []) = 4:=by
      unfold chkS;rw [ql (not_not_intro (j _ qo qo)),qm qo]
    unfold Kl;rw [this,qm qo]
  have n7 : Uy (partT [ln 0 0 0 0 (-1)]) [ub] = ([],2):=by
    have : chkS (partT [ln 0 0 0 0 (-1)]) [ub] = 2:=by
      unfold chkS;rw [ql (not_not_intro (j _ qo qo)),ql qo,ql (by rw [qa8 (by simp [q4a])];decide),ql qo,qm ⟨_,List.mem_singleton.2 rfl,qo⟩]
    have hb : Kl (partT [ln 0 0 0 0 (-1)]) [ub] = ([],2):=by unfold Kl;rw [this,qm qo]
    unfold Uy;rw [hb,qm qo]
  have n8 : Kl (partT [ln 0 0 0 0 7]) [[],ub] = ([ub],0):=by
    refine q75 (g:=fun _=>ub) (qab qo qo (by simp [q4a,q77])) fun l o=>?_;simp only [partT,List.mem_cons,List.not_mem_nil,or_false] at o;subst o;exact q74 (m:=ub) rfl qo qo fun x y z=>Iff.rfl
  have n9 : Uy (partT []) [] = ([],0):=by
    have : J6 (partT []) []:=⟨j _ qo qo,qo,qe,fun h=>absurd rfl h,by simp [partT]⟩
    rw [qfi (q75 (g:=fun _=>[]) this (by simp [partT]))];rfl
  have n10 : q3e (partT [ln 0 0 1 0 0]) [[bx 0 0 0 0 0 0]] = ([],8):=by
    have : chkS (partT [ln 0 0 1 0 0]) [[bx 0 0 0 0 0 0]] = 8:=by
      have hb : badB [[bx 0 0 0 0 0 0]] = 8:=by unfold badB;rw [qga,qm qo]
      unfold chkS;rw [ql (not_not_intro (j _ qo qo)),ql qo,qm (by rw [hb];decide),hb]
    have hb : Kl (partT [ln 0 0 1 0 0]) [[bx 0 0 0 0 0 0]] = ([],8):=by unfold Kl;rw [this,qm qo]
    unfold q3e;rw [hb,qm qo]
  have a : ∀ (ls : List Qo) (bs : List (List qg)),ls.length≤1000000→bs.length≤1000000→Uz ({Lines:=ls,Marks:=[],End:=({Frame:=({Turn:=0,At:=({X:=0,Y:=0,Z:=0} : qz)} : Kg),Drawn:=0} : Kz)} : Qw) bs = some (Kl (partT ls) bs):=fun ls bs d c=>qck (partT ls) bs d (by simp [partT]) c;have b : ∀ (ls : List Qo) (bs : List (List qg)),ls.length≤1000000→bs.length≤1000000→q10 ({Lines:=ls,Marks:=[],End:=({Frame:=({Turn:=0,At:=({X:=0,Y:=0,Z:=0} : qz)} : Kg),Drawn:=0} : Kz)} : Qw) bs = some (Uy (partT ls) bs):=fun ls bs d c=>qm8 (partT ls) bs d (by simp [partT]) c;have f : ∀ (ls : List Qo) (bs : List (List qg)),ls.length≤2000→bs.length≤1000000→q37 ({Lines:=ls,Marks:=[],End:=({Frame:=({Turn:=0,At:=({X:=0,Y:=0,Z:=0} : qz)} : Kg),Drawn:=0} : Kz)} : Qw) bs = some (q3e (partT ls) bs):=fun ls bs d c=>qgo (t:=partT ls) (bs:=bs) d (by simp [partT]) c;have q : ({Lo:=({X:=0,Y:=0,Z:=0} : qz),Hi:=({X:=0,Y:=0,Z:=0} : qz)} : qg) = bx 0 0 0 0 0 0:=rfl;have w : ({From:=({X:=0,Y:=0,Z:=0} : qz),To:=({X:=0,Y:=0,Z:=0} : qz),Depth:=(-1)} : Qo) = ln 0 0 0 0 (-1):=rfl;have r : ({From:=({X:=0,Y:=0,Z:=0} : qz),To:=({X:=0,Y:=0,Z:=0} : qz),Depth:=7} : Qo) = ln 0 0 0 0 7:=rfl;have mk : mks 24 21 ([] : List qg) = some (List.replicate 21 []):=rfl;unfold qap;simp only [qiy,qmm,q,w,r,mk,qn,qks,n1,v,s,n4,qzt,qn1];rw [a _ _ qo qo,n5,qn,a _ _ qo qo,n6,qn,b _ _ qo qo,n7,qn,a _ _ qo qo,n8,qn,b _ _ qo qo,n9,qn,f _ _ qo qo,n10,qn,b _ _ qo qo,many];have u : idx [ub] 0 = some ub:=rfl;simp only [qn,u,sameBox _ _ (show ub.length≤1000000 by decide)];simp
end Go.Sh
