import Derived.Test.YtlbdmpjnmfmnfaaFs3
import Derived.Test.YtlbdmpjnmfmnfaaR01
import Derived.Test.YtlbdmpjnmfmnfaaHlFi
import Derived.Test.YtlbdmpjnmfmnfaaHlW
import Derived.Test.YtlbdmpjnmfmnfaaHlRo
import Derived.Test.YtlbdmpjnmfmnfaaFsB
set_option linter.unusedSimpArgs false
set_option linter.unusedVariables false
set_option linter.unnecessarySimpa false
set_option maxHeartbeats 16000000
section
namespace Go.Proofs.Ytlbdmpjnmfmnfaa
open Go.RowKit Go.HL Go.FS
theorem H7 (x:Nat) (h:x<=1048576):HT Try.prog 51 [.int .i64 x] (fun r=>∃y:Int,r=.int .i64 y /\ -1<=y/\y<=2):=by
 refine HT.of rfl aey (bF rfl) ?_
 unfold c51
 simp only [ay,Nat.reduceAdd]
 have h7:((x:Int).tmod 7).tmod 4=((x % 7 % 4:Nat):Int):=by
  have e:(x:Int).tmod 7=(x:Int) % 7:=Int.tmod_eq_emod_of_nonneg (by omega)
  rw [e,Int.tmod_eq_emod_of_nonneg (by omega)];omega
 have h8:x % 7 % 4<4:=Nat.mod_lt _ (by decide)
 generalize x % 7 % 4=y at h7 h8
 refine fP @h7 ⟨?_⟩
 refine ae ?_
 exact ⟨_,rfl,by omega,by omega⟩
theorem yN {α:Type} [Inhabited α] {g:α->List HV} {k:Nat} (r:Rec g k) {v:HV} {x:α}:∀ (l:List α) {i j:Nat},i<l.length->j<k->(g (l.getD i default)).set j v=g x->(recs g l).set (i*k+j) v=recs g (l.set i x)
 | [],i,j,h,_,_=>by simp at h
 | a::l,0,j,_,hj,he=>by
  have e:recs g (a::l)=g a++recs g l:=rfl
  rw [e,Nat.zero_mul,Nat.zero_add,List.set_append_left _ _ (by rw [r.len];exact hj)]
  simp only [List.getD_cons_zero] at he
  rw [he];rfl
 | a::l,i+1,j,h,hj,he=>by
  have e:recs g (a::l)=g a++recs g l:=rfl
  have hl:=r.len a
  rw [e,RN _ _ (by rw [hl,nU,Es];omega),hl,show (i+1)*k+j - k=i*k+j by rw [nU,Es];omega,yN r l (by simpa using h) hj (by simpa using he)]
  rfl
theorem TI (l:List A) {i:Nat} (v:Int) (h:i<l.length):(recs aC l).set (i*4) (.int .i64 v)=recs aC (l.set i { l.getD i default with f:=v }):=yN aR (j:=0) l h (by omega) rfl
theorem TN (l:List A) {i:Nat} (v:Int) (h:i<l.length):(recs aC l).set (i*4+1) (.int .i64 v)=recs aC (l.set i { l.getD i default with i:=v }):=yN aR l h (by omega) rfl
theorem UH (l:List A) {i:Nat} (v:Int) (h:i<l.length):(recs aC l).set (i*4+2) (.int .i64 v)=recs aC (l.set i { l.getD i default with o:=v }):=yN aR l h (by omega) rfl
theorem Uf (l:List A) {i:Nat} (v:Int) (h:i<l.length):(recs aC l).set (i*4+3) (.int .i64 v)=recs aC (l.set i { l.getD i default with t:=v }):=yN aR l h (by omega) rfl
attribute [go_sem] TI TN UH Uf
theorem lC (F:List Bool) (X:List A) (n m:Nat):stripL [.osl 1 n (HL.bools F),.osl 4 m (recs aC X)]=[.sl n (HL.bools F),.sl m (recs aC X)]:=by simp [stripL,HV.strip,HL.bools_strip,jO]
theorem Ua (l:List Bool) (h:0<l.length) (h2:l.length<=100000000):HT Try.prog 67 [.sl l.length (HL.bools l)] (fun r=>r=.osl 1 l.length (HL.bools l)):=by
 refine HT.of rfl aeL (bF rfl) ?_
 unfold c67
 simp only [ay,Nat.reduceAdd]
 refine zF ⟨?_⟩
 refine ae ?_
 rfl
def Iy (a:A):A:=⟨a.f,a.o,a.i,a.t⟩
def Vb (fin:List Bool) (al:List A):List Bool×List A:=if okF fin al=true then (fin,al.map Iy) else ([],[])
theorem TL (fin:List Bool) (al:List A) (hf:fin.length<=9223372036854775807) (ha:al.length<=9223372036854775807):HT Try.prog 23 [.agg (dR fin al)] (fun r=>r=.agg (dR (Vb fin al).1 (Vb fin al).2)):=by
 refine HT.ofC rfl aep [2] rfl (bF rfl) ?_
 unfold c23
 have hvd:=wB fin al hf ha
 simp only [ay,Nat.reduceAdd]
 simp only [dR,fU] at hvd ⊢
 refine zF ⟨?_⟩
 refine aX aG bz (hvd) ?_
 rintro _ rfl
 by_cases hv:okF fin al=true
 ·have ht:Vb fin al=(fin,al.map Iy):=if_pos hv
  rw [hv]
  refine zG ⟨?_⟩
  obtain ⟨h1,h2,h3⟩:=lF hv
  refine zF ⟨?_⟩
  refine aX aG bz (Ua fin (by omega) (by omega)) ?_
  rintro _ rfl
  refine zG ⟨?_⟩
  refine zF ⟨?_⟩
  refine dZ 144 [1,4] [2,3,15,16,17] (⟨[(2,.pref 0 [] 0),(3,.pref 1 [] 0),(15,.sl al.length (recs aC al)),(16,.int .i64 al.length),(17,.int .i64 0)],[(0,.optr [.nils,.nils]),(1,.optr [.osl 1 fin.length (HL.bools fin),.osl 4 0 []])],2⟩:St) rfl rfl ?_
  refine aF [2,3,15,16,17] (fun k:Nat=>k<=al.length)
   (fun k=>⟨[(2,.pref 0 [] 0),(3,.pref 1 [] 0),(15,.sl al.length (recs aC al)),(16,.int .i64 al.length),(17,.int .i64 k)],[(0,.optr [.nils,.nils]),(1,.optr [.osl 1 fin.length (HL.bools fin),.osl 4 k (recs aC ((al.take k).map Iy))])],2⟩)
   (fun k=>al.length - k) 0 (by omega) rfl ?_
  intro k hk
  by_cases hkl:k<al.length
  ·have hst:(al.take (k+1)).map Iy=(al.take k).map Iy++[Iy (al.getD k default)]:=by rw [bY hkl,oW];rfl
   have hml:((al.take k).map Iy).length=k:=by simp;omega
   generalize (al.take k).map Iy=ml at hst hml
   refine zF ⟨?_⟩
   exact aV [2,3,15,16,17] (k+1) hkl (by omega) (by simp only [hst,Iy];rfl)
  ·obtain rfl:k=al.length:=by omega
   rw [ig]
   refine aP 1 [2,3,16,17] ⟨[(2,.pref 0 [] 0),(3,.ptr (stripL [.osl 1 fin.length (HL.bools fin),.osl 4 al.length (recs aC (al.map Iy))]) 0),(16,.int .i64 al.length),(17,.int .i64 al.length)],[(0,.optr [.nils,.nils])],1⟩ rfl ?_
   rw [lC]
   refine zF ⟨?_⟩
   refine ae ?_
   exact ⟨_,_,rfl,rfl,by rw [ht];simp only [dR,fU,List.length_map];rfl⟩
 ·have ht:Vb fin al=([],[]):=if_neg hv
  rw [show okF fin al=false by simpa using hv]
  refine zG ⟨?_⟩
  refine zF ⟨?_⟩
  refine dZ 16 [1,4] [2] (⟨[(2,.pref 0 [] 0)],[(0,.optr [.osl 1 0 [],.osl 4 0 []])],1⟩:St) rfl rfl ?_
  refine EY 0 [2] ⟨[(2,.pref 0 [] 0)],[(0,.optr [.sl 0 [],.sl 0 []])],1⟩ rfl rfl ?_
  refine ae ?_
  exact ⟨_,_,rfl,rfl,by rw [ht];rfl⟩
section
variable {k:Nat->Bool}
end
section
variable {fin:List Bool} {al:List A}
end
def Ia (x:Int):Bool:=!decide (0<=x/\x<64)
theorem Zx (x:Int):HT Try.prog 78 [.int .i64 x] (fun r=>r=.bool (Ia x)):=by
 refine HT.of rfl aes (bF rfl) ?_
 unfold c78
 simp only [ay,Nat.reduceAdd]
 refine zF ⟨?_⟩
 refine aX aG bz (zT x) ?_
 rintro _ rfl
 refine zG ⟨?_⟩
 refine zF ⟨?_⟩
 refine ae ?_
 rfl
theorem ZH (l:List Int) (hl:l.length<=9223372036854775807):HT Try.prog 105 [.sl l.length (HL.ints l),.fn 78 []] (fun r=>∃z:Int,r=.int .i64 z/\(0<=z <-> l.any Ia=true)):=by
 refine HT.of rfl VI (bF rfl) ?_
 unfold c105
 simp only [ay,Nat.reduceAdd]
 refine zF ⟨?_⟩
 refine aF [0,1,7,8] (fun k:Nat=>k<=l.length/\(l.take k).any Ia=false)
  (fun k=>⟨[(0,.sl l.length (HL.ints l)),(1,.fn 78 []),(7,.int .i64 l.length),(8,.int .i64 k)],[],0⟩)
  (fun k=>l.length - k) 0 ⟨by omega,by simp⟩ rfl ?_
 rintro k ⟨hk,hno⟩
 by_cases hkl:k<l.length
 ·have htk:=bY hkl
  refine zF ⟨?_⟩
  refine uH (by rfl) aG bz (Zx (l.getD k 0)) ?_
  rintro _ rfl
  cases hp:Ia (l.getD k 0)
  ·refine zG ⟨?_⟩
   refine zF ⟨?_⟩
   exact aV [0,1,7,8] (k+1) ⟨hkl,by rw [htk,Je,hno];simp only [List.any_cons,List.any_nil,CU,vY];exact hp⟩ (by omega) rfl
  ·refine zG ⟨?_⟩
   refine zF ⟨?_⟩
   refine ae ?_
   exact ⟨_,rfl,fun _=>zl083.2 ⟨l.getD k 0,by rw [bf,bn hkl];exact iD _,hp⟩,fun _=>by omega⟩
 ·obtain rfl:k=l.length:=by omega
  rw [ig] at hno
  refine zF ⟨?_⟩
  refine ae ?_
  exact ⟨_,rfl,fun h=>absurd h (by decide),fun h=>by rw [hno] at h;cases h⟩
theorem SK (l:List Int) (hl:l.length<=9223372036854775807):HT Try.prog 79 [.sl l.length (HL.ints l),.fn 78 []] (fun r=>r=.bool (l.any Ia)):=by
 refine HT.of rfl abb (bF rfl) ?_
 unfold c79
 simp only [ay,Nat.reduceAdd]
 refine zF ⟨?_⟩
 refine aX aG bz (ZH l hl) ?_
 rintro _ ⟨z,rfl,hz⟩
 refine zG ⟨?_⟩
 by_cases h0:0<=z
 ·refine zF ⟨?_⟩
  refine ae ?_
  simp [bG,hz.1 h0,h0]
 ·have:l.any Ia=false:=by
   cases h:l.any Ia
   ·rfl
   ·exact absurd (hz.2 h) h0
  rw [this]
  refine zF ⟨?_⟩
  refine ae ?_
  simp [bG,h0]
theorem Z9 (l:List Int) (i:Nat) (hl:l.length<=9223372036854775807):HT Try.prog 80 [.sl l.length (HL.ints l),.int .i64 i] (fun r=>r=.int .i64 (l.getD i (-1))):=by
 refine HT.of rfl aeZ (bF rfl) ?_
 unfold c80
 simp only [ay,Nat.reduceAdd]
 by_cases h:i<l.length
 ·refine zF ⟨?_⟩
  refine ae ?_
  simp [bG,h]
 ·refine zF ⟨?_⟩
  refine ae ?_
  simp [bG,h]
end Go.Proofs.Ytlbdmpjnmfmnfaa
end
section
namespace Go.FS
structure Dz where
 sz:Int
 nx:List (List Int)
 fn:List Bool
end Go.FS
namespace Go.Proofs.Ytlbdmpjnmfmnfaa
open Go.RowKit Go.HL Go.FS
def dC (d:Dz):List HV:=[.int .i64 d.sz,.sl d.nx.length (iT d.nx),.sl d.fn.length (HL.bools d.fn)]
def AO (n:Nat) (k:Int):Bool:=decide (0<=k/\k<n)
def rowOk (n:Nat) (sz:Int) (row:List Int):Bool:=decide ((row.length:Int)=sz)&&row.all (AO n)
def okD (d:Dz):Bool:=decide (1<=d.sz/\d.sz<=64/\1<=d.nx.length/\d.nx.length<=2048/\d.fn.length=d.nx.length)&&d.nx.all (rowOk d.nx.length d.sz)
theorem FB {α:Type} {p:α->Bool} {l:List α} {k:Nat} [Inhabited α] (h:k<l.length):(l.take (k+1)).all p=((l.take k).all p&&p (l.getD k default)):=by
 rw [rG,List.all_append];simp [h]
theorem Lc {α:Type} {p:α->Bool} {l:List α} {k:Nat} [Inhabited α] (h:k<l.length) (hp:p (l.getD k default)=false):l.all p=false:=by
 rw [List.all_eq_false]
 exact ⟨l.getD k default,by rw [bf,bn h];exact iD h,by rw [hp];simp⟩
theorem aaV (x:Int) (n:Nat):HT Try.prog 106 [.int .i64 x,.ptr [.int .i64 n] 0] (fun r=>r=.bool (!AO n x)):=by
 refine HT.of rfl adU (bF rfl) ?_
 unfold adY
 simp only [ay,Nat.reduceAdd]
 by_cases h1:x<0
 ·have:AO n x=false:=by simp only [AO,decide_eq_false_iff_not];omega
  refine zF ⟨?_⟩
  refine ae ?_
  rw [this];rfl
 ·by_cases h2:x<n
  ·have:AO n x=true:=by simp only [AO,decide_eq_true_eq];omega
   refine zF ⟨?_⟩
   refine ae ?_
   rw [this];rfl
  ·have:AO n x=false:=by simp only [AO,decide_eq_false_iff_not];omega
   refine zF ⟨?_⟩
   refine ae ?_
   rw [this];rfl
theorem Zb (l:List Int) (n:Nat) (hl:l.length<=9223372036854775807):HT Try.prog 105 [.sl l.length (HL.ints l),.fn 106 [.ptr [.int .i64 n] 0]] (fun r=>∃z:Int,r=.int .i64 z/\(0<=z <-> l.all (AO n)=false)):=by
 refine HT.of rfl VI (bF rfl) ?_
 unfold c105
 simp only [ay,Nat.reduceAdd]
 refine zF ⟨?_⟩
 refine aF [0,1,7,8] (fun k:Nat=>k<=l.length/\(l.take k).all (AO n)=true)
  (fun k=>⟨[(0,.sl l.length (HL.ints l)),(1,.fn 106 [.ptr [.int .i64 n] 0]),(7,.int .i64 l.length),(8,.int .i64 k)],[],0⟩)
  (fun k=>l.length - k) 0 ⟨by omega,by simp⟩ rfl ?_
 rintro k ⟨hk,hno⟩
 by_cases hkl:k<l.length
 ·have htk:=FB (p:=AO n) hkl
  have hv:=aaV (l.getD k 0) n
  refine zF ⟨?_⟩
  refine uH (by rfl) aG bz (hv) ?_
  rintro _ rfl
  cases hp:AO n (l.getD k 0) with
  | true =>
   refine zG ⟨?_⟩
   refine zF ⟨?_⟩
   exact aV [0,1,7,8] (k+1) ⟨hkl,by rw [htk,hno];exact hp⟩ (by omega) rfl
  | false =>
   have ha:=Lc (p:=AO n) hkl hp
   refine zG ⟨?_⟩
   refine zF ⟨?_⟩
   refine ae ?_
   exact ⟨_,rfl,by rw [ha];simp⟩
 ·have e0:l.take k=l:=kC (by omega)
  rw [e0] at hno
  refine zF ⟨?_⟩
  refine ae ?_
  exact ⟨_,rfl,by rw [hno];simp⟩
theorem ZJ (l:List Int) (n:Nat) (hl:l.length<=9223372036854775807):HT Try.prog 79 [.sl l.length (HL.ints l),.fn 106 [.ptr [.int .i64 n] 0]] (fun r=>r=.bool (!l.all (AO n))):=by
 refine HT.of rfl abb (bF rfl) ?_
 unfold c79
 simp only [ay,Nat.reduceAdd]
 refine zF ⟨?_⟩
 refine aX aG bz (Zb l n hl) ?_
 rintro _ ⟨z,rfl,hz⟩
 refine zG ⟨?_⟩
 by_cases h:0<=z
 ·rw [hz.1 h]
  refine zF ⟨?_⟩
  refine ae ?_
  rfl
 ·have:l.all (AO n)=true:=by
   cases hb:l.all (AO n) with
   | true=>rfl
   | false=>exact absurd (hz.2 hb) h
  rw [this]
  refine zF ⟨?_⟩
  refine ae ?_
  rfl
theorem Jm (d:Dz) (h1:d.nx.length<=1000000) (h2:d.fn.length<=1000000) (h3:∀r∈d.nx,r.length<=1000000):HT Try.prog 85 [.agg (dC d)] (fun r=>r=.bool (okD d)):=by
 refine HT.of rfl aeQ (bF rfl) ?_
 unfold c85
 simp only [ay,Nat.reduceAdd,dC]
 by_cases hb:1<=d.sz/\d.sz<=64/\1<=d.nx.length/\d.nx.length<=2048/\d.fn.length=d.nx.length
 ·obtain ⟨b1,b2,b3,b4,b5⟩:=hb
  have ho:okD d=d.nx.all (rowOk d.nx.length d.sz):=by unfold okD;rw [decide_eq_true ⟨b1,b2,b3,b4,b5⟩];rfl
  refine zF ⟨?_⟩
  refine aF [1,3,33,34,35] (fun k:Nat=>k<=d.nx.length/\(d.nx.take k).all (rowOk d.nx.length d.sz)=true)
   (fun k=>⟨[(1,.pref 0 [] 0),(3,.pref 1 [] 0),(33,.sl d.nx.length (iT d.nx)),(34,.int .i64 d.nx.length),(35,.int .i64 k)],[(0,.optr [.int .i64 d.sz,.sl d.nx.length (iT d.nx),.sl d.fn.length (HL.bools d.fn)]),(1,.optr [.int .i64 d.nx.length])],2⟩)
   (fun k=>d.nx.length - k) 0 ⟨by omega,by simp⟩ rfl ?_
  rintro k ⟨hk,hall⟩
  by_cases hkl:k<d.nx.length
  ·have hst:=FB (p:=rowOk d.nx.length d.sz) hkl
   rw [hall,uj] at hst
   have hm:d.nx.getD k []∈d.nx:=by rw [bf,bn hkl];exact iD hkl
   have hrl:=h3 _ hm
   have hno:=Lc (p:=rowOk d.nx.length d.sz) hkl
   change _=rowOk d.nx.length d.sz (d.nx.getD k []) at hst
   change rowOk d.nx.length d.sz (d.nx.getD k [])=false->_ at hno
   have hav:=ZJ (d.nx.getD k []) d.nx.length (by omega)
   by_cases e:((d.nx.getD k []).length:Int)=d.sz
   ·cases ha:(d.nx.getD k []).all (AO d.nx.length) with
    | true =>
     rw [ha] at hav
     have hr:rowOk d.nx.length d.sz (d.nx.getD k [])=true:=by unfold rowOk;rw [decide_eq_true e,ha];rfl
     refine zF ⟨?_⟩
     refine tY aG ?_
     refine zF ⟨?_⟩
     refine aX aG bz (hav) ?_
     rintro _ rfl
     refine zG ⟨?_⟩
     refine zF ⟨?_⟩
     exact aV [1,3,33,34,35] (k+1) ⟨hkl,by rw [hst];exact hr⟩ (by omega) rfl
    | false =>
     rw [ha] at hav
     have hr:rowOk d.nx.length d.sz (d.nx.getD k [])=false:=by unfold rowOk;rw [ha,Bool.and_false]
     refine zF ⟨?_⟩
     refine tY aG ?_
     refine zF ⟨?_⟩
     refine aX aG bz (hav) ?_
     rintro _ rfl
     refine zG ⟨?_⟩
     refine zF ⟨?_⟩
     refine ae ?_
     rw [ho,hno hr];rfl
   ·have hr:rowOk d.nx.length d.sz (d.nx.getD k [])=false:=by unfold rowOk;rw [decide_eq_false e,Bool.false_and]
    refine zF ⟨?_⟩
    refine ae ?_
    rw [ho,hno hr];rfl
  ·have e0:d.nx.take k=d.nx:=kC (by omega)
   rw [e0] at hall
   refine zF ⟨?_⟩
   refine ae ?_
   rw [ho,hall];rfl
 ·have ho:okD d=false:=by unfold okD;rw [decide_eq_false hb];rfl
  by_cases b1:1<=d.sz
  ·by_cases b2:d.sz<=64
   ·by_cases b3:1<=d.nx.length
    ·by_cases b4:d.nx.length<=2048
     ·have b5:¬ d.fn.length=d.nx.length:=fun h=>hb ⟨b1,b2,b3,b4,h⟩
      refine zF ⟨?_⟩
      refine ae ?_
      rw [ho];rfl
     ·refine zF ⟨?_⟩
      refine ae ?_
      rw [ho];rfl
    ·refine zF ⟨?_⟩
     refine ae ?_
     rw [ho];rfl
   ·refine zF ⟨?_⟩
    refine ae ?_
    rw [ho];rfl
  ·refine zF ⟨?_⟩
   refine ae ?_
   rw [ho];rfl
theorem PL (d:Dz) (h1:d.nx.length<=1000000) (h2:d.fn.length<=1000000) (h3:∀r∈d.nx,r.length<=1000000):HT Try.prog 88 [.agg (dC d)] (fun r=>r=.bool (okD d)):=by
 refine HT.of rfl aeD (bF rfl) ?_
 unfold c88
 simp only [ay,Nat.reduceAdd,dC]
 by_cases hb:1<=d.sz/\d.sz<=64/\1<=d.nx.length/\d.nx.length<=2048/\d.fn.length=d.nx.length
 ·obtain ⟨b1,b2,b3,b4,b5⟩:=hb
  have ho:okD d=d.nx.all (rowOk d.nx.length d.sz):=by unfold okD;rw [decide_eq_true ⟨b1,b2,b3,b4,b5⟩];rfl
  refine zF ⟨?_⟩
  refine aF [1,3,4] (fun k:Nat=>k<=d.nx.length/\(d.nx.take k).all (rowOk d.nx.length d.sz)=true)
   (fun k=>⟨[(1,.pref 0 [] 0),(3,.int .i64 d.nx.length),(4,.int .i64 k)],[(0,.optr [.int .i64 d.sz,.sl d.nx.length (iT d.nx),.sl d.fn.length (HL.bools d.fn)])],1⟩)
   (fun k=>d.nx.length - k) 0 ⟨by omega,by simp⟩ rfl ?_
  rintro k ⟨hk,hall⟩
  by_cases hkl:k<d.nx.length
  ·have hst:=FB (p:=rowOk d.nx.length d.sz) hkl
   rw [hall,uj] at hst
   have hm:d.nx.getD k []∈d.nx:=by rw [bf,bn hkl];exact iD hkl
   have hrl:=h3 _ hm
   have hno:=Lc (p:=rowOk d.nx.length d.sz) hkl
   change _=rowOk d.nx.length d.sz (d.nx.getD k []) at hst
   change rowOk d.nx.length d.sz (d.nx.getD k [])=false->_ at hno
   by_cases e:((d.nx.getD k []).length:Int)=d.sz
   ·have hre:rowOk d.nx.length d.sz (d.nx.getD k [])=(d.nx.getD k []).all (AO d.nx.length):=by unfold rowOk;rw [decide_eq_true e];rfl
    rw [hre] at hst hno
    obtain ⟨row,hrow⟩:∃row,d.nx.getD k []=row:=⟨_,rfl⟩
    rw [hrow] at hst hno e hrl
    refine zF ⟨?_⟩
    refine bJ aA aA (fun _ _ _=>False) ?_
    refine fP @hrow ⟨?_⟩
    refine aF [1,3,4,5] (fun j:Nat=>j<=row.length/\(row.take j).all (AO d.nx.length)=true)
     (fun j=>⟨[(1,.pref 0 [] 0),(3,.int .i64 d.nx.length),(4,.int .i64 k),(5,.int .i64 j)],[(0,.optr [.int .i64 d.sz,.sl d.nx.length (iT d.nx),.sl d.fn.length (HL.bools d.fn)])],1⟩)
     (fun j=>row.length - j) 0 ⟨by omega,by simp⟩ rfl ?_
    rintro j ⟨hj,hra⟩
    by_cases hjl:j<row.length
    ·have hjt:=FB (p:=AO d.nx.length) hjl
     rw [hra,uj] at hjt
     have hjn:=Lc (p:=AO d.nx.length) hjl
     change _=AO d.nx.length (row.getD j 0) at hjt
     change AO d.nx.length (row.getD j 0)=false->_ at hjn
     by_cases c1:row.getD j 0<0
     ·have hf:AO d.nx.length (row.getD j 0)=false:=by simp only [AO,decide_eq_false_iff_not];omega
      refine fP @hrow ⟨?_⟩
      refine ae ?_
      rw [ho,hno (hjn hf)];rfl
     ·by_cases c2:row.getD j 0<d.nx.length
      ·have hf:AO d.nx.length (row.getD j 0)=true:=by simp only [AO,decide_eq_true_eq];omega
       refine fP @hrow ⟨?_⟩
       exact aV [1,3,4,5] (j+1) ⟨hjl,by rw [hjt];exact hf⟩ (by omega) rfl
      ·have hf:AO d.nx.length (row.getD j 0)=false:=by simp only [AO,decide_eq_false_iff_not];omega
       refine fP @hrow ⟨?_⟩
       refine ae ?_
       rw [ho,hno (hjn hf)];rfl
    ·have e0:row.take j=row:=kC (by omega)
     rw [e0] at hra
     refine zF ⟨?_⟩
     exact aV [1,3,4] (k+1) ⟨hkl,by rw [hst];exact hra⟩ (by omega) rfl
   ·have hr:rowOk d.nx.length d.sz (d.nx.getD k [])=false:=by unfold rowOk;rw [decide_eq_false e,Bool.false_and]
    refine zF ⟨?_⟩
    refine bJ aA aA (fun _ _ _=>False) ?_
    refine zF ⟨?_⟩
    refine ae ?_
    rw [ho,hno hr];rfl
  ·have e0:d.nx.take k=d.nx:=kC (by omega)
   rw [e0] at hall
   refine zF ⟨?_⟩
   refine ae ?_
   rw [ho,hall];rfl
 ·have ho:okD d=false:=by unfold okD;rw [decide_eq_false hb];rfl
  by_cases b1:1<=d.sz
  ·by_cases b2:d.sz<=64
   ·by_cases b3:1<=d.nx.length
    ·by_cases b4:d.nx.length<=2048
     ·have b5:¬ d.fn.length=d.nx.length:=fun h=>hb ⟨b1,b2,b3,b4,h⟩
      refine zF ⟨?_⟩
      refine ae ?_
      rw [ho];rfl
     ·refine zF ⟨?_⟩
      refine ae ?_
      rw [ho];rfl
    ·refine zF ⟨?_⟩
     refine ae ?_
     rw [ho];rfl
   ·refine zF ⟨?_⟩
    refine ae ?_
    rw [ho];rfl
  ·refine zF ⟨?_⟩
   refine ae ?_
   rw [ho];rfl
end Go.Proofs.Ytlbdmpjnmfmnfaa
end
