import Derived.Test.YtjlidhijnohkbaaGrW
import Derived.Test.YtjlidhijnohkbaaHlW
set_option linter.unusedSimpArgs false
set_option linter.unusedVariables false
set_option maxHeartbeats 8000000
namespace Go.Proofs.Ytjlidhijnohkbaa
open Go.RowKit Go.HL
def rT (R:List (List Nat)):List HV:=R.map fun r=>.sl r.length (HL.ints (nl r))
theorem PZ (R:List (List Nat)):(rT R).length=R.length:=by simp [rT]
theorem Np {R:List (List Nat)} {i:Nat} (h:i<R.length):(rT R).getD i .dead=.sl (R.getD i []).length (HL.ints (nl (R.getD i []))):=by simp [rT,h]
theorem zO (R:List (List Nat)):stripL (rT R)=rT R:=by
 induction R with
 | nil=>rfl
 | cons a l ih=>simp only [rT,iy,stripL,HV.strip,HL.ints_strip] at ih ⊢;rw [ih]
attribute [go_sem] PZ
theorem Uc (R:List (List Nat)):stripL (dR R)=rT R:=by rw [og];simp [aO,rT,Function.comp_def,bH]
structure Au (n:Nat) (R:List (List Nat)) (F:List Bool):Prop where
 rl:R.length=n
 fl:F.length=n
 pos:0<n
 le:n<=2048
 row:∀i,i<n->(R.getD i []).length=4
 lt:∀i,i<n->∀x∈R.getD i [],x<n
def Ew (n:Nat) (k:Int):Bool:=decide (0<=k/\k<n)
theorem O4 {α:Type} {p:α->Bool} {l:List α} {k:Nat} [Inhabited α] (h:k<l.length):(l.take (k+1)).all p=((l.take k).all p&&p (l.getD k default)):=by
 rw [List.take_add_one,List.all_append];simp [h]
theorem PX {α:Type} {p:α->Bool} {l:List α} {k:Nat} [Inhabited α] (h:k<l.length) (hp:p (l.getD k default)=false):l.all p=false:=by
 rw [List.all_eq_false]
 exact ⟨l.getD k default,by rw [dW,dS h];exact Bq h,by rw [hp];simp⟩
theorem QE (x:Int) (n:Nat):HT Try.prog 45 [.int .i64 x,.ptr [.int .i64 n] 0] (fun r=>r=.bool (!Ew n x)):=by
 refine HT.of rfl Uu (gZ rfl) ?_
 unfold UH
 simp only [aB,Nat.reduceAdd]
 by_cases h1:x<0
 ·have:Ew n x=false:=by simp only [Ew,decide_eq_false_iff_not];omega
  refine zF ⟨?_⟩
  refine az ?_
  rw [this];rfl
 ·by_cases h2:x<n
  ·have:Ew n x=true:=by simp only [Ew,decide_eq_true_eq];omega
   refine zF ⟨?_⟩
   refine az ?_
   rw [this];rfl
  ·have:Ew n x=false:=by simp only [Ew,decide_eq_false_iff_not];omega
   refine zF ⟨?_⟩
   refine az ?_
   rw [this];rfl
theorem Pm (l:List Int) (n:Nat) (hl:l.length<=9223372036854775807):HT Try.prog 36 [.sl l.length (HL.ints l),.fn 45 [.ptr [.int .i64 n] 0]] (fun r=>∃z:Int,r=.int .i64 z/\(0<=z <-> l.all (Ew n)=false)):=by
 refine HT.of rfl QN (gZ rfl) ?_
 unfold Tn
 simp only [aB,Nat.reduceAdd]
 refine zF ⟨?_⟩
 refine aQ [0,1,7,8] (fun k:Nat=>k<=l.length/\(l.take k).all (Ew n)=true)
  (fun k=>⟨[(0,.sl l.length (HL.ints l)),(1,.fn 45 [.ptr [.int .i64 n] 0]),(7,.int .i64 l.length),(8,.int .i64 k)],[],0⟩)
  (fun k=>l.length - k) 0 ⟨by omega,by simp⟩ rfl ?_
 rintro k ⟨hk,hno⟩
 by_cases hkl:k<l.length
 ·have htk:=O4 (p:=Ew n) hkl
  have hv:=QE (l.getD k 0) n
  refine zF ⟨?_⟩
  refine ou (by rfl) aY iQ (hv) ?_
  rintro _ rfl
  cases hp:Ew n (l.getD k 0) with
  | true =>
   refine zG ⟨?_⟩
   refine zF ⟨?_⟩
   exact bg [0,1,7,8] (k+1) ⟨hkl,by rw [htk,hno];exact hp⟩ (by omega) rfl
  | false =>
   have ha:=PX (p:=Ew n) hkl hp
   refine zG ⟨?_⟩
   refine zF ⟨?_⟩
   refine az ?_
   exact ⟨_,rfl,by rw [ha];simp⟩
 ·have e0:l.take k=l:=mW (by omega)
  rw [e0] at hno
  refine zF ⟨?_⟩
  refine az ?_
  exact ⟨_,rfl,by rw [hno];simp⟩
theorem Pq (l:List Int) (n:Nat) (hl:l.length<=9223372036854775807):HT Try.prog 44 [.sl l.length (HL.ints l),.fn 45 [.ptr [.int .i64 n] 0]] (fun r=>r=.bool (!l.all (Ew n))):=by
 refine HT.of rfl Uw (gZ rfl) ?_
 unfold UE
 simp only [aB,Nat.reduceAdd]
 refine zF ⟨?_⟩
 refine bU aY iQ (Pm l n hl) ?_
 rintro _ ⟨z,rfl,hz⟩
 refine zG ⟨?_⟩
 by_cases h:0<=z
 ·rw [hz.1 h]
  refine zF ⟨?_⟩
  refine az ?_
  rfl
 ·have:l.all (Ew n)=true:=by
   cases hb:l.all (Ew n) with
   | true=>rfl
   | false=>exact absurd (hz.2 hb) h
  rw [this]
  refine zF ⟨?_⟩
  refine az ?_
  rfl
theorem JE {n:Nat} {R:List (List Nat)} {F:List Bool} (a:Au n R F):HT Try.prog 39 [.agg [.int .i64 4,.sl n (rT R),.sl n (HL.bools F)]] (fun r=>r=.bool true):=by
 refine HT.of rfl UB (gZ rfl) ?_
 unfold UF
 simp only [aB,Nat.reduceAdd]
 have h1:=a.rl
 have h2:=a.fl
 have h3:=a.pos
 have h4:=a.le
 refine zF ⟨?_⟩
 refine aQ [1,3,33,34,35] (fun k:Nat=>k<=n)
  (fun k=>⟨[(1,.pref 0 [] 0),(3,.pref 1 [] 0),(33,.sl n (rT R)),(34,.int .i64 n),(35,.int .i64 k)],[(0,.optr [.int .i64 4,.sl n (rT R),.sl n (HL.bools F)]),(1,.optr [.int .i64 n])],2⟩)
  (fun k=>n - k) 0 (gX _) rfl ?_
 intro k hk
 by_cases hkl:k<n
 ·have hrow:=Np (R:=R) (i:=k) (by omega)
  have hl4:=a.row k hkl
  have hav:=Pq (nl (R.getD k [])) n (by rw [bH];omega)
  have hal:(nl (R.getD k [])).all (Ew n)=true:=by
   rw [zl014]
   intro y hy
   obtain ⟨z,hz,rfl⟩:=zl023.1 hy
   have:=a.lt k hkl z hz
   simp only [Ew,decide_eq_true_eq];omega
  rw [hal,bH] at hav
  generalize R.getD k []=row at hrow hl4 hav
  refine kE @hrow ⟨?_⟩
  refine zZ aY ?_
  refine zF ⟨?_⟩
  refine bU aY iQ (hav) ?_
  rintro _ rfl
  refine zG ⟨?_⟩
  refine zF ⟨?_⟩
  exact bg [1,3,33,34,35] (k+1) hkl (by omega) rfl
 ·refine zF ⟨?_⟩
  refine az ?_
  rfl
theorem KU {n:Nat} {R:List (List Nat)} {F:List Bool} (a:Au n R F) (k s:Nat) (hk:k<n) (hs:s<4):HT Try.prog 41 [.int .i64 k,.int .i64 s,.ptr [.int .i64 4,.sl n (rT R),.sl n (HL.bools F)] 0] (fun r=>r=.int .i64 ((R.getD k []).getD s 0:Nat)):=by
 refine HT.of rfl TQ (gZ rfl) ?_
 unfold UC
 simp only [aB,Nat.reduceAdd]
 have h1:=a.rl
 have hrow:=Np (R:=R) (i:=k) (by omega)
 have hl4:=a.row k hk
 have e3:(HL.ints (nl (R.getD k []))).getD s .dead=.int .i64 ((R.getD k []).getD s 0:Nat):=by
  have hl:s<(R.getD k []).length:=by omega
  generalize R.getD k []=row at hl
  simp [HL.ints,nl,hl]
 generalize R.getD k []=row at hrow hl4 e3 ⊢
 generalize row.getD s 0=y at e3 ⊢
 refine kE (zA @hrow @e3) ⟨?_⟩
 refine az ?_
 rfl
theorem Lc {n:Nat} {R:List (List Nat)} {F:List Bool} (a:Au n R F) (k:Nat) (hk:k<n):HT Try.prog 42 [.int .i64 k,.ptr [.int .i64 4,.sl n (rT R),.sl n (HL.bools F)] 0] (fun r=>r=.bool (F.getD k false)):=by
 refine HT.of rfl Uf (gZ rfl) ?_
 unfold UD
 simp only [aB,Nat.reduceAdd]
 have h2:=a.fl
 have e3:(HL.bools F).getD k .dead=.bool (F.getD k false):=by simp [HL.bools,show k<F.length by omega]
 generalize F.getD k false=y at e3 ⊢
 refine kE @e3 ⟨?_⟩
 refine az ?_
 rfl
end Go.Proofs.Ytjlidhijnohkbaa
