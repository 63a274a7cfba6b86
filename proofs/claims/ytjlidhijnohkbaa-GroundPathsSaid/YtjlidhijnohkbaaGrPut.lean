import Derived.Test.YtjlidhijnohkbaaHb
import Derived.Test.YtjlidhijnohkbaaHlW
set_option linter.unusedSimpArgs false
set_option linter.unusedVariables false
set_option maxHeartbeats 4000000
namespace Go.Proofs.Ytjlidhijnohkbaa
open Go.RowKit Go.HL
def jL (x:Int) (p:List Int×Bool) (a:Int):List Int×Bool :=
 ((if p.2=false/\x<=a then p.1++[x] else p.1)++(if a=x then [] else [a]),p.2 || decide (x<=a))
def su (l:List Int) (x:Int) (k:Nat):List Int×Bool:=(l.take k).foldl (jL x) ([],false)
def KZ (l:List Int) (x:Int):List Int:=let p:=su l x l.length;if p.2 then p.1 else p.1++[x]
theorem zI (l:List Int) (x:Int) (k:Nat) (hk:k<l.length):su l x (k+1)=jL x (su l x k) (l.getD k 0):=by
 unfold su
 rw [I5 hk,List.foldl_append]
 simp [hk]
theorem Kr (l:List Int) (x:Int):∀k,(su l x k).1.length<=2*k:=by
 intro k
 induction k with
 | zero=>simp [su]
 | succ k ih =>
  rcases dL k l.length with h|h
  ·rw [zI l x k h]
   simp only [jL]
   split<;>split<;>simp<;>omega
  ·have:su l x (k+1)=su l x k:=by unfold su;rw [mW (by omega),mW h]
   rw [this];omega
theorem Qa (l:List Int) (x:Int) (hl:l.length<=1000000):HT Try.prog 30 [I l,.int .i64 x] (fun r=>r=.osl 1 (KZ l x).length (HL.ints (KZ l x))):=by
 refine HT.of rfl TJ (gZ rfl) ?_
 unfold UG
 simp only [I,aB,Nat.reduceAdd]
 refine zF ⟨?_⟩
 refine aQ [0,1,5,6,7] (fun s:Nat×Nat×List Int×Bool=>s.1<=l.length/\s.2.2.1.length=s.2.1/\s.2.2=su l x s.1) (fun s=>⟨[(0,.sl l.length (HL.ints l)),(1,.int .i64 x),(5,.ref 0 [] 1 0 s.2.1),(6,.bool s.2.2.2),(7,.int .i64 s.1)],[(0,.osl 1 s.2.1 (HL.ints s.2.2.1))],1⟩) (fun s=>l.length - s.1) (0,0,[],false) ⟨by simp,rfl,rfl⟩ rfl ?_
 rintro ⟨k,m,o,d⟩ ⟨hk,ho,hp⟩
 simp only at hk ho hp ⊢
 have hbd:=Kr l x k
 rw [<- hp] at hbd
 simp only at hbd
 by_cases hkl:k<l.length
 ·have hs:=zI l x k hkl
  rw [<- hp] at hs
  simp only [jL] at hs
  have hl1:(o++[x]).length=m+1:=by simp [ho]
  cases d with
  | true =>
   by_cases hx:l.getD k 0=x
   ·refine zF ⟨?_⟩
    exact bg [0,1,5,6,7] (k+1,m,o,true) ⟨hkl,ho,by rw [hs];clear hs hp hbd;generalize l.getD k 0=y at hx ⊢;simp [hx]⟩ dD rfl
   ·refine zF ⟨?_⟩
    exact bg [0,1,5,6,7] (k+1,m+1,o++[l.getD k 0],true) ⟨hkl,by simp [ho],by rw [hs];clear hs hp hbd;generalize l.getD k 0=y at hx ⊢;simp [hx]⟩ dD rfl
  | false =>
   by_cases hge:x<=l.getD k 0
   ·by_cases hx:l.getD k 0=x
    ·refine zF ⟨?_⟩
     exact bg [0,1,5,6,7] (k+1,m+1,o++[x],true) ⟨hkl,by simp [ho],by rw [hs];clear hs hp hbd;generalize l.getD k 0=y at hx ⊢;simp [hx]⟩ dD rfl
    ·refine zF ⟨?_⟩
     exact bg [0,1,5,6,7] (k+1,m+1+1,o++[x]++[l.getD k 0],true) ⟨hkl,by simp [ho],by rw [hs];clear hs hp hbd;generalize l.getD k 0=y at hx hge ⊢;simp [hx,hge]⟩ dD rfl
   ·have hx:¬ l.getD k 0=x:=by omega
    refine zF ⟨?_⟩
    exact bg [0,1,5,6,7] (k+1,m+1,o++[l.getD k 0],false) ⟨hkl,by simp [ho],by rw [hs];clear hs hp hbd;generalize l.getD k 0=y at hx hge ⊢;simp [hx,hge]⟩ dD rfl
 ·obtain rfl:k=l.length:=by omega
  have hpl:KZ l x=if d then o else o++[x]:=by unfold KZ;simp only;rw [<- hp]
  cases d with
  | true =>
   refine zF ⟨?_⟩
   refine az ?_
   rw [hpl];simp [fJ,ho]
  | false =>
   refine zF ⟨?_⟩
   refine az ?_
   rw [hpl];simp [fJ,ho]
end Go.Proofs.Ytjlidhijnohkbaa
