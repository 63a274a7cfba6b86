import Derived.Test.YtlbdmpjnmfmnfaaFwLb
import Derived.Test.YtlbdmpjnmfmnfaaFt2
import Derived.Test.YtlbdmpjnmfmnfaaFs7
import Derived.Test.YtlbdmpjnmfmnfaaFsB
import Derived.Test.YtlbdmpjnmfmnfaaFsN
import Derived.Test.YtlbdmpjnmfmnfaaHlFi
set_option linter.unusedSimpArgs false
set_option linter.unusedVariables false
set_option linter.unnecessarySimpa false
set_option maxHeartbeats 16000000
section
namespace Go.FS
structure Dz where
 sz:Int
 nx:List (List Int)
 fn:List Bool
end Go.FS
namespace Go.Proofs.Ytlbdmpjnmfmnfaa
open Go.RowKit Go.HL Go.FS
def dC (d:Dz):List HV:=[.int .i64 d.sz,.sl d.nx.length (iT d.nx),.sl d.fn.length (HL.bools d.fn)]
def Bv (n:Nat) (k:Int):Bool:=decide (0<=k/\k<n)
def rowOk (n:Nat) (sz:Int) (row:List Int):Bool:=decide ((row.length:Int)=sz)&&row.all (Bv n)
def okD (d:Dz):Bool:=decide (1<=d.sz/\d.sz<=64/\1<=d.nx.length/\d.nx.length<=2048/\d.fn.length=d.nx.length)&&d.nx.all (rowOk d.nx.length d.sz)
theorem Fj {α:Type} {p:α->Bool} {l:List α} {k:Nat} [Inhabited α] (h:k<l.length):(l.take (k+1)).all p=((l.take k).all p&&p (l.getD k default)):=by
 rw [vV,List.all_append];simp [h]
theorem LY {α:Type} {p:α->Bool} {l:List α} {k:Nat} [Inhabited α] (h:k<l.length) (hp:p (l.getD k default)=false):l.all p=false:=by
 rw [List.all_eq_false]
 exact ⟨l.getD k default,by rw [bH,bM h];exact gy h,by rw [hp];simp⟩
theorem abE (x:Int) (n:Nat):HT Try.prog 106 [.int .i64 x,.ptr [.int .i64 n] 0] (fun r=>r=.bool (!Bv n x)):=by
 refine HT.of rfl ad1 (aZ rfl) ?_
 unfold aeC
 simp only [aA,Nat.reduceAdd]
 by_cases h1:x<0
 ·have:Bv n x=false:=by simp only [Bv,decide_eq_false_iff_not];omega
  refine zF ⟨?_⟩
  refine ae ?_
  rw [this];rfl
 ·by_cases h2:x<n
  ·have:Bv n x=true:=by simp only [Bv,decide_eq_true_eq];omega
   refine zF ⟨?_⟩
   refine ae ?_
   rw [this];rfl
  ·have:Bv n x=false:=by simp only [Bv,decide_eq_false_iff_not];omega
   refine zF ⟨?_⟩
   refine ae ?_
   rw [this];rfl
theorem aaH (l:List Int) (n:Nat) (hl:l.length<=9223372036854775807):HT Try.prog 105 [.sl l.length (HL.ints l),.fn 106 [.ptr [.int .i64 n] 0]] (fun r=>∃z:Int,r=.int .i64 z/\(0<=z <-> l.all (Bv n)=false)):=by
 refine HT.of rfl aa2 (aZ rfl) ?_
 unfold c105
 simp only [aA,Nat.reduceAdd]
 refine zF ⟨?_⟩
 refine aI [0,1,7,8] (fun k:Nat=>k<=l.length/\(l.take k).all (Bv n)=true)
  (fun k=>⟨[(0,.sl l.length (HL.ints l)),(1,.fn 106 [.ptr [.int .i64 n] 0]),(7,.int .i64 l.length),(8,.int .i64 k)],[],0⟩)
  (fun k=>l.length - k) 0 ⟨by omega,by simp⟩ rfl ?_
 rintro k ⟨hk,hno⟩
 by_cases hkl:k<l.length
 ·have htk:=Fj (p:=Bv n) hkl
  have hv:=abE (l.getD k 0) n
  refine zF ⟨?_⟩
  refine Fb (by rfl) ay aK (hv) ?_
  rintro _ rfl
  cases hp:Bv n (l.getD k 0) with
  | true =>
   refine zG ⟨?_⟩
   refine zF ⟨?_⟩
   exact aP [0,1,7,8] (k+1) ⟨hkl,by rw [htk,hno];exact hp⟩ (by omega) rfl
  | false =>
   have ha:=LY (p:=Bv n) hkl hp
   refine zG ⟨?_⟩
   refine zF ⟨?_⟩
   refine ae ?_
   exact ⟨_,rfl,by rw [ha];simp⟩
 ·have e0:l.take k=l:=kD (by omega)
  rw [e0] at hno
  refine zF ⟨?_⟩
  refine ae ?_
  exact ⟨_,rfl,by rw [hno];simp⟩
theorem Zk (l:List Int) (n:Nat) (hl:l.length<=9223372036854775807):HT Try.prog 79 [.sl l.length (HL.ints l),.fn 106 [.ptr [.int .i64 n] 0]] (fun r=>r=.bool (!l.all (Bv n))):=by
 refine HT.of rfl ad9 (aZ rfl) ?_
 unfold c79
 simp only [aA,Nat.reduceAdd]
 refine zF ⟨?_⟩
 refine aF ay aK (aaH l n hl) ?_
 rintro _ ⟨z,rfl,hz⟩
 refine zG ⟨?_⟩
 by_cases h:0<=z
 ·rw [hz.1 h]
  refine zF ⟨?_⟩
  refine ae ?_
  rfl
 ·have:l.all (Bv n)=true:=by
   cases hb:l.all (Bv n) with
   | true=>rfl
   | false=>exact absurd (hz.2 hb) h
  rw [this]
  refine zF ⟨?_⟩
  refine ae ?_
  rfl
theorem Vs (d:Dz) (h1:d.nx.length<=1000000) (h2:d.fn.length<=1000000) (h3:∀r∈d.nx,r.length<=1000000):HT Try.prog 85 [.agg (dC d)] (fun r=>r=.bool (okD d)):=by
 refine HT.of rfl agD (aZ rfl) ?_
 unfold c85
 simp only [aA,Nat.reduceAdd,dC]
 by_cases hb:1<=d.sz/\d.sz<=64/\1<=d.nx.length/\d.nx.length<=2048/\d.fn.length=d.nx.length
 ·obtain ⟨b1,b2,b3,b4,b5⟩:=hb
  have ho:okD d=d.nx.all (rowOk d.nx.length d.sz):=by unfold okD;rw [decide_eq_true ⟨b1,b2,b3,b4,b5⟩];rfl
  refine zF ⟨?_⟩
  refine aI [1,3,33,34,35] (fun k:Nat=>k<=d.nx.length/\(d.nx.take k).all (rowOk d.nx.length d.sz)=true)
   (fun k=>⟨[(1,.pref 0 [] 0),(3,.pref 1 [] 0),(33,.sl d.nx.length (iT d.nx)),(34,.int .i64 d.nx.length),(35,.int .i64 k)],[(0,.optr [.int .i64 d.sz,.sl d.nx.length (iT d.nx),.sl d.fn.length (HL.bools d.fn)]),(1,.optr [.int .i64 d.nx.length])],2⟩)
   (fun k=>d.nx.length - k) 0 ⟨by omega,by simp⟩ rfl ?_
  rintro k ⟨hk,hall⟩
  by_cases hkl:k<d.nx.length
  ·have hst:=Fj (p:=rowOk d.nx.length d.sz) hkl
   rw [hall,jf] at hst
   have hm:d.nx.getD k []∈d.nx:=by rw [bH,bM hkl];exact gy hkl
   have hrl:=h3 _ hm
   have hno:=LY (p:=rowOk d.nx.length d.sz) hkl
   change _=rowOk d.nx.length d.sz (d.nx.getD k []) at hst
   change rowOk d.nx.length d.sz (d.nx.getD k [])=false->_ at hno
   have hav:=Zk (d.nx.getD k []) d.nx.length (by omega)
   by_cases e:((d.nx.getD k []).length:Int)=d.sz
   ·cases ha:(d.nx.getD k []).all (Bv d.nx.length) with
    | true =>
     rw [ha] at hav
     have hr:rowOk d.nx.length d.sz (d.nx.getD k [])=true:=by unfold rowOk;rw [decide_eq_true e,ha];rfl
     refine zF ⟨?_⟩
     refine yu ay ?_
     refine zF ⟨?_⟩
     refine aF ay aK (hav) ?_
     rintro _ rfl
     refine zG ⟨?_⟩
     refine zF ⟨?_⟩
     exact aP [1,3,33,34,35] (k+1) ⟨hkl,by rw [hst];exact hr⟩ (by omega) rfl
    | false =>
     rw [ha] at hav
     have hr:rowOk d.nx.length d.sz (d.nx.getD k [])=false:=by unfold rowOk;rw [ha,Bool.and_false]
     refine zF ⟨?_⟩
     refine yu ay ?_
     refine zF ⟨?_⟩
     refine aF ay aK (hav) ?_
     rintro _ rfl
     refine zG ⟨?_⟩
     refine zF ⟨?_⟩
     refine ae ?_
     rw [ho,hno hr];rfl
   ·have hr:rowOk d.nx.length d.sz (d.nx.getD k [])=false:=by unfold rowOk;rw [decide_eq_false e,JB]
    refine zF ⟨?_⟩
    refine ae ?_
    rw [ho,hno hr];rfl
  ·have e0:d.nx.take k=d.nx:=kD (by omega)
   rw [e0] at hall
   refine zF ⟨?_⟩
   refine ae ?_
   rw [ho,hall];rfl
 ·have ho:okD d=false:=by unfold okD;rw [decide_eq_false hb];rfl
  by_cases b1:1<=d.sz
  ·by_cases b2:d.sz<=64
   ·by_cases b3:1<=d.nx.length
    ·by_cases b4:d.nx.length<=2048
     ·have b5:¬ d.fn.length=d.nx.length:=fun h=>hb ⟨b1,b2,b3,b4,h⟩
      refine zF ⟨?_⟩
      refine ae ?_
      rw [ho];rfl
     ·refine zF ⟨?_⟩
      refine ae ?_
      rw [ho];rfl
    ·refine zF ⟨?_⟩
     refine ae ?_
     rw [ho];rfl
   ·refine zF ⟨?_⟩
    refine ae ?_
    rw [ho];rfl
  ·refine zF ⟨?_⟩
   refine ae ?_
   rw [ho];rfl
theorem Rx (d:Dz) (h1:d.nx.length<=1000000) (h2:d.fn.length<=1000000) (h3:∀r∈d.nx,r.length<=1000000):HT Try.prog 88 [.agg (dC d)] (fun r=>r=.bool (okD d)):=by
 refine HT.of rfl agI (aZ rfl) ?_
 unfold c88
 simp only [aA,Nat.reduceAdd,dC]
 by_cases hb:1<=d.sz/\d.sz<=64/\1<=d.nx.length/\d.nx.length<=2048/\d.fn.length=d.nx.length
 ·obtain ⟨b1,b2,b3,b4,b5⟩:=hb
  have ho:okD d=d.nx.all (rowOk d.nx.length d.sz):=by unfold okD;rw [decide_eq_true ⟨b1,b2,b3,b4,b5⟩];rfl
  refine zF ⟨?_⟩
  refine aI [1,3,4] (fun k:Nat=>k<=d.nx.length/\(d.nx.take k).all (rowOk d.nx.length d.sz)=true)
   (fun k=>⟨[(1,.pref 0 [] 0),(3,.int .i64 d.nx.length),(4,.int .i64 k)],[(0,.optr [.int .i64 d.sz,.sl d.nx.length (iT d.nx),.sl d.fn.length (HL.bools d.fn)])],1⟩)
   (fun k=>d.nx.length - k) 0 ⟨by omega,by simp⟩ rfl ?_
  rintro k ⟨hk,hall⟩
  by_cases hkl:k<d.nx.length
  ·have hst:=Fj (p:=rowOk d.nx.length d.sz) hkl
   rw [hall,jf] at hst
   have hm:d.nx.getD k []∈d.nx:=by rw [bH,bM hkl];exact gy hkl
   have hrl:=h3 _ hm
   have hno:=LY (p:=rowOk d.nx.length d.sz) hkl
   change _=rowOk d.nx.length d.sz (d.nx.getD k []) at hst
   change rowOk d.nx.length d.sz (d.nx.getD k [])=false->_ at hno
   by_cases e:((d.nx.getD k []).length:Int)=d.sz
   ·have hre:rowOk d.nx.length d.sz (d.nx.getD k [])=(d.nx.getD k []).all (Bv d.nx.length):=by unfold rowOk;rw [decide_eq_true e];rfl
    rw [hre] at hst hno
    obtain ⟨row,hrow⟩:∃row,d.nx.getD k []=row:=⟨_,rfl⟩
    rw [hrow] at hst hno e hrl
    refine zF ⟨?_⟩
    refine bG ah ah (fun _ _ _=>False) ?_
    refine eH @hrow ⟨?_⟩
    refine aI [1,3,4,5] (fun j:Nat=>j<=row.length/\(row.take j).all (Bv d.nx.length)=true)
     (fun j=>⟨[(1,.pref 0 [] 0),(3,.int .i64 d.nx.length),(4,.int .i64 k),(5,.int .i64 j)],[(0,.optr [.int .i64 d.sz,.sl d.nx.length (iT d.nx),.sl d.fn.length (HL.bools d.fn)])],1⟩)
     (fun j=>row.length - j) 0 ⟨by omega,by simp⟩ rfl ?_
    rintro j ⟨hj,hra⟩
    by_cases hjl:j<row.length
    ·have hjt:=Fj (p:=Bv d.nx.length) hjl
     rw [hra,jf] at hjt
     have hjn:=LY (p:=Bv d.nx.length) hjl
     change _=Bv d.nx.length (row.getD j 0) at hjt
     change Bv d.nx.length (row.getD j 0)=false->_ at hjn
     by_cases c1:row.getD j 0<0
     ·have hf:Bv d.nx.length (row.getD j 0)=false:=by simp only [Bv,decide_eq_false_iff_not];omega
      refine eH @hrow ⟨?_⟩
      refine ae ?_
      rw [ho,hno (hjn hf)];rfl
     ·by_cases c2:row.getD j 0<d.nx.length
      ·have hf:Bv d.nx.length (row.getD j 0)=true:=by simp only [Bv,decide_eq_true_eq];omega
       refine eH @hrow ⟨?_⟩
       exact aP [1,3,4,5] (j+1) ⟨hjl,by rw [hjt];exact hf⟩ (by omega) rfl
      ·have hf:Bv d.nx.length (row.getD j 0)=false:=by simp only [Bv,decide_eq_false_iff_not];omega
       refine eH @hrow ⟨?_⟩
       refine ae ?_
       rw [ho,hno (hjn hf)];rfl
    ·have e0:row.take j=row:=kD (by omega)
     rw [e0] at hra
     refine zF ⟨?_⟩
     exact aP [1,3,4] (k+1) ⟨hkl,by rw [hst];exact hra⟩ (by omega) rfl
   ·have hr:rowOk d.nx.length d.sz (d.nx.getD k [])=false:=by unfold rowOk;rw [decide_eq_false e,JB]
    refine zF ⟨?_⟩
    refine bG ah ah (fun _ _ _=>False) ?_
    refine zF ⟨?_⟩
    refine ae ?_
    rw [ho,hno hr];rfl
  ·have e0:d.nx.take k=d.nx:=kD (by omega)
   rw [e0] at hall
   refine zF ⟨?_⟩
   refine ae ?_
   rw [ho,hall];rfl
 ·have ho:okD d=false:=by unfold okD;rw [decide_eq_false hb];rfl
  by_cases b1:1<=d.sz
  ·by_cases b2:d.sz<=64
   ·by_cases b3:1<=d.nx.length
    ·by_cases b4:d.nx.length<=2048
     ·have b5:¬ d.fn.length=d.nx.length:=fun h=>hb ⟨b1,b2,b3,b4,h⟩
      refine zF ⟨?_⟩
      refine ae ?_
      rw [ho];rfl
     ·refine zF ⟨?_⟩
      refine ae ?_
      rw [ho];rfl
    ·refine zF ⟨?_⟩
     refine ae ?_
     rw [ho];rfl
   ·refine zF ⟨?_⟩
    refine ae ?_
    rw [ho];rfl
  ·refine zF ⟨?_⟩
   refine ae ?_
   rw [ho];rfl
end Go.Proofs.Ytlbdmpjnmfmnfaa
end
section
namespace Go.Proofs.Ytlbdmpjnmfmnfaa
open Go.RowKit Go.HL Go.FS
theorem XR (l:List (List Int)) (u:List Int) {n:Nat} (h:n=u.length):iO l++[.osl 1 n (HL.ints u)]=iO (l++[u]):=by subst h;simp [iO]
theorem lZ (sz:Int) (nx:List (List Int)) (fn:List Bool) (n m:Nat):stripL [.int .i64 sz,.osl 1 n (iO nx),.osl 1 m (HL.bools fn)]=[.int .i64 sz,.sl n (iT nx),.sl m (HL.bools fn)]:=by simp [stripL,HV.strip,Dp,HL.bools_strip]
theorem XZ (l:List Int) (size:Nat) (hs:1<=size) (hs2:size<=100) (hl:l.length<=9223372036854775807) (hr:∀k,k<l.length -> -9223372036854775808<=l.getD k 0/\l.getD k 0<=9223372036854775807):HT Try.prog 84 [I l,.int .i64 size] (fun r=>∃d:Dz,r=.agg (dC d)/\1<=d.nx.length/\d.nx.length<=7/\d.fn.length=d.nx.length/\∀u∈d.nx,u.length=size):=by
 refine HT.ofC rfl afK [4] rfl (aZ rfl) ?_
 unfold c84
 simp only [I,aA,Nat.reduceAdd]
 refine zF ⟨?_⟩
 refine aF ay vO (BQ l 1 7 (by omega) (by omega) (by omega) hl hr) ?_
 rintro _ ⟨n0,rfl,hn0⟩
 refine zG ⟨?_⟩
 obtain ⟨n,hn⟩:∃n:Nat,1+n0=n:=⟨_,rfl⟩
 have hni:(1:Int)+n0=(n:Int):=by omega
 refine eH @hni ⟨?_⟩
 refine aX 112 [0,1,1] [0,1,4,5,6,7] (⟨[(0,.sl l.length (HL.ints l)),(1,.int .i64 size),(4,.pref 0 [] 0),(5,.int .i64 n),(6,.pref 1 [] 0),(7,.int .i64 0)],[(0,.optr [.int .i64 0,.nils,.nils]),(1,.optr [.int .i64 size,.osl 1 0 [],.osl 1 0 []])],2⟩:St) rfl rfl ?_
 refine aI [0,1,4,5,6,7] (fun s:List (List Int)×List Bool=>s.1.length<=n/\s.2.length=s.1.length/\∀u∈s.1,u.length=size)
  (fun s=>⟨[(0,.sl l.length (HL.ints l)),(1,.int .i64 size),(4,.pref 0 [] 0),(5,.int .i64 n),(6,.pref 1 [] 0),(7,.int .i64 s.1.length)],[(0,.optr [.int .i64 0,.nils,.nils]),(1,.optr [.int .i64 size,.osl 1 s.1.length (iO s.1),.osl 1 s.2.length (HL.bools s.2)])],2⟩)
  (fun s=>n - s.1.length) ([],[]) ⟨by simp,rfl,by simp⟩ rfl ?_
 rintro ⟨nx,fn⟩ ⟨h1,h2,h3⟩
 simp only at h1 h2 h3 ⊢
 by_cases hi:nx.length<n
 ·refine zF ⟨?_⟩
  refine aI [0,1,4,5,6,7,8,9] (fun u:List Int=>u.length<=size)
   (fun u=>⟨[(0,.sl l.length (HL.ints l)),(1,.int .i64 size),(4,.pref 0 [] 0),(5,.int .i64 n),(6,.pref 1 [] 0),(7,.int .i64 nx.length),(8,.ref 2 [] 1 0 u.length),(9,.int .i64 u.length)],[(0,.optr [.int .i64 0,.nils,.nils]),(1,.optr [.int .i64 size,.osl 1 nx.length (iO nx),.osl 1 fn.length (HL.bools fn)]),(2,.osl 1 u.length (HL.ints u))],3⟩)
   (fun u=>size - u.length) [] (by simp) rfl ?_
  intro u hu
  by_cases hul:u.length<size
  ·have hp:size*nx.length<=100*7:=tK hs2 (by omega)
   have hpi:(size:Int)*(nx.length:Int)=((size*nx.length:Nat):Int):=by push_cast;rfl
   have hz:(9:Int)+((size*nx.length:Nat):Int)+(u.length:Int)=((9+size*nx.length+u.length:Nat):Int):=by push_cast;rfl
   have hat:=BQ l (9+size*nx.length+u.length) n (by omega) (by omega) (by omega) hl hr
   generalize size*nx.length=w at hp hpi hz hat
   refine eH (zA @hpi @hz) ⟨?_⟩
   refine aF ay vO (hat) ?_
   rintro _ ⟨y,rfl,hy⟩
   refine zG ⟨?_⟩
   refine zF ⟨?_⟩
   refine aP [0,1,4,5,6,7,8,9] (u++[(y:Int)]) (by rw [bD,jQ];omega) (by rw [bD,jQ];omega) ?_
   rw [bD,jQ]
   rfl
  ·have hue:u.length=size:=by omega
   have hat:=BQ l (2+nx.length) 3 (by omega) (by omega) (by omega) hl hr
   have hz:(2:Int)+(nx.length:Int)=((2+nx.length:Nat):Int):=by push_cast;rfl
   have hap:=XR nx u rfl
   refine zF ⟨?_⟩
   rw [show win (iO nx) 0 nx.length=iO nx from eG _ (by rw [AA]),hap]
   refine aY [0,1,4,5,6,7] ⟨[(0,.sl l.length (HL.ints l)),(1,.int .i64 size),(4,.pref 0 [] 0),(5,.int .i64 n),(6,.pref 1 [] 0),(7,.int .i64 nx.length)],[(0,.optr [.int .i64 0,.nils,.nils]),(1,.optr [.int .i64 size,.osl 1 (nx++[u]).length (iO (nx++[u])),.osl 1 fn.length (HL.bools fn)])],2⟩ (by rw [bD];rfl) ?_
   have hat':=hat.mono (K':=fun r=>∃y:Nat,r=.int .i64 y) fun r ⟨y,h,_⟩=>⟨y,h⟩
   refine iW [0,7] [6] ah ah (fun _ _ r=>∃y:Nat,r=.int .i64 y) (by simp [ax,HV.deep,jL]) (by simp [ax,HV.deep,aO]) ?_ (by rintro _ _ _ ⟨y,rfl⟩ fr;exact kW)
   refine eH @hz ⟨?_⟩
   refine bI ay vO hat' ⟨.int .i64 (0:Nat),⟨0,rfl⟩,rfl⟩ ?_
   rintro _ ⟨y,rfl⟩ -
   refine zG ⟨?_⟩
   by_cases hy:y=1
   ·subst hy
    refine eH @hz ⟨?_⟩
    refine aP [0,1,4,5,6,7] (nx++[u],fn++[true]) ⟨by simp only [bD,jQ];omega,by simp only [bD,jQ];omega,fun v hv=>by
     simp only at hv
     rcases zl003.1 hv with hv|hv
     ·exact h3 v hv
     ·simp only [zl009] at hv;subst hv;exact hue⟩ (by simp only [bD,jQ];omega) ?_
    simp only [bD,jQ]
    rfl
   ·have hy2:¬ (y:Int)=1:=by omega
    refine eH @hz ⟨?_⟩
    refine aP [0,1,4,5,6,7] (nx++[u],fn++[false]) ⟨by simp only [bD,jQ];omega,by simp only [bD,jQ];omega,fun v hv=>by
     simp only at hv
     rcases zl003.1 hv with hv|hv
     ·exact h3 v hv
     ·simp only [zl009] at hv;subst hv;exact hue⟩ (by simp only [bD,jQ];omega) ?_
    simp only [bD,jQ]
    rfl
 ·have hnl:nx.length=n:=by omega
  refine aH ?_
  refine aH ?_
  refine au ?_
  refine zQ ⟨?_⟩
  refine bu (by rfl) ?_
  refine iY (by rfl) ?_
  refine az 1 [4,6] ⟨[(4,.pref 0 [] 0),(6,.ptr (stripL [.int .i64 size,.osl 1 nx.length (iO nx),.osl 1 fn.length (HL.bools fn)]) 0)],[(0,.optr [.int .i64 0,.nils,.nils])],1⟩ rfl ?_
  rw [lZ]
  refine zF ⟨?_⟩
  refine ae ?_
  exact ⟨_,_,rfl,rfl,⟨size,nx,fn⟩,rfl,by simp only;omega,by simp only;omega,h2,h3⟩
theorem acd (l:List Int) (hl:l.length<=9223372036854775807) (hr:∀k,k<l.length -> -9223372036854775808<=l.getD k 0/\l.getD k 0<=9223372036854775807):HT Try.prog 41 [I l] (fun r=>∃d:Dz,r=.agg (dC d)/\1<=d.nx.length/\d.nx.length<=7/\d.fn.length=d.nx.length/\∃size:Nat,1<=size/\size<=3/\∀u∈d.nx,u.length=size):=by
 refine HT.ofC rfl afV [2] rfl (aZ rfl) ?_
 unfold c41
 simp only [I,aA,Nat.reduceAdd]
 refine zF ⟨?_⟩
 refine aF ay vO (BQ l 0 3 (by omega) (by omega) (by omega) hl hr) ?_
 rintro _ ⟨n0,rfl,hn0⟩
 refine zG ⟨?_⟩
 have hni:(1:Int)+n0=((1+n0:Nat):Int):=by omega
 have hsz:=XZ l (1+n0) (by omega) (by omega) hl hr
 refine eH @hni ⟨?_⟩
 refine aF ay vO (hsz) ?_
 rintro _ ⟨d,rfl,d1,d2,d3,d4⟩
 simp only [dC]
 refine zG ⟨?_⟩
 refine zF ⟨?_⟩
 refine ae ?_
 exact ⟨_,_,rfl,rfl,d,rfl,d1,d2,d3,1+n0,by omega,by omega,d4⟩
end Go.Proofs.Ytlbdmpjnmfmnfaa
end
