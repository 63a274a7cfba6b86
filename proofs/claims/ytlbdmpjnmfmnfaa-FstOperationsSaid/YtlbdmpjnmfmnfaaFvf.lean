import Derived.Test.YtlbdmpjnmfmnfaaFt2
import Derived.Test.YtlbdmpjnmfmnfaaFt3
import Derived.Test.YtlbdmpjnmfmnfaaFsZ
import Derived.Test.YtlbdmpjnmfmnfaaHlRo
import Derived.Test.YtlbdmpjnmfmnfaaFsB
set_option linter.unusedSimpArgs false
set_option linter.unusedVariables false
set_option linter.unnecessarySimpa false
set_option maxHeartbeats 16000000
section
namespace Go.FS
open Go.HL
def lL (n:Nat) (v:Nd):Int:=v.1*n+v.2
def encS (n:Nat) (x:Stp):A:=⟨0,x.1,x.2.1,lL n x.2.2⟩
def Xn (n j:Nat):Nd:=(((j / n:Nat):Int),((j % n:Nat):Int))
def UL (n:Nat) (l:List Nd) (j:Nat):Int:=if Xn n j∈l then (Aq l (Xn n j):Int)+1 else 0
def oP (n N:Nat) (l:List Nd):List Int:=(List.range N).map (UL n l)
theorem Nw {n N:Nat} {l:List Nd}:(oP n N l).length=N:=by simp [oP]
theorem FB {m n:Nat} {v:Nd} (h:Q4 m n v):∃j:Nat,lL n v=j/\j<m*n/\Xn n j=v:=by
 obtain ⟨h1,h2,h3,h4⟩:=h
 obtain ⟨p,hp⟩:∃p:Nat,v.1=p:=⟨v.1.toNat,by omega⟩
 obtain ⟨q,hq⟩:∃q:Nat,v.2=q:=⟨v.2.toNat,by omega⟩
 have hpm:p<m:=by omega
 have hqn:q<n:=by omega
 refine ⟨p*n+q,?_,?_,?_⟩
 ·unfold lL;rw [hp,hq];push_cast;rfl
 ·calc p*n+q<p*n+n:=by omega
   _=(p+1)*n:=by rw [lg,BV]
   _<=m*n:=Af n hpm
 ·unfold Xn
  have e1:(p*n+q) / n=p:=by rw [Nat.mul_comm,Nat.mul_add_div (by omega),Nat.div_eq_of_lt hqn];rfl
  have e2:(p*n+q) % n=q:=by rw [Nat.mul_comm,Nat.mul_add_mod,Nat.mod_eq_of_lt hqn]
  rw [e1,e2,<- hp,<- hq]
theorem num_get {m n:Nat} {l:List Nd} {v:Nd} (h:Q4 m n v):(oP n (m*n) l).getD (lL n v).toNat 0=if v∈l then (Aq l v:Int)+1 else 0:=by
 obtain ⟨j,h1,h2,h3⟩:=FB h
 rw [h1,Int.toNat_natCast]
 simp [oP,h2,UL,h3]
theorem num_set {m n:Nat} {l:List Nd} {v:Nd} (h:Q4 m n v) (hn:v ∉ l):(oP n (m*n) l).set (lL n v).toNat ((l.length:Int)+1)=oP n (m*n) (l++[v]):=by
 obtain ⟨j,h1,h2,h3⟩:=FB h
 rw [h1,Int.toNat_natCast]
 apply nN
 intro i
 rw [vg]
 by_cases hi:i<m*n
 ·by_cases e:j=i
  ·subst e
   have hx:Aq (l++[v]) v=l.length:=LH hn
   simp [oP,hi,UL,h3,hx]
  ·have hne:Xn n i≠v:=fun h5=>by
    have h6:Xn n i=Xn n j:=h5.trans h3.symm
    unfold Xn at h6
    have a1:i / n=j / n:=by have:=congrArg Prod.fst h6;simp only at this;omega
    have a2:i % n=j % n:=by have:=congrArg Prod.snd h6;simp only at this;omega
    have b1:=Nat.div_add_mod i n
    have b2:=Nat.div_add_mod j n
    rw [a1,a2] at b1
    omega
   have hm:(Xn n i∈l++[v]) <-> Xn n i∈l:=by simp [hne]
   rw [if_neg e]
   simp only [oP,jd,Nq,hi,if_true,iq,UL,hm]
   by_cases h7:Xn n i∈l
   ·rw [if_pos h7,if_pos h7,Ls h7]
   ·rw [if_neg h7,if_neg h7]
 ·have:¬ j=i:=by omega
  simp [oP,hi,this]
theorem num_nil {n N:Nat}:oP n N []=List.replicate N 0:=by
 apply nN
 intro i
 simp only [oP,jd,Nq,JK,UL,GM,if_false]
 split<;>simp_all [UL]
theorem UK {m n:Nat} (hm:0<m) (hn:0<n):(List.replicate (m*n) (0:Int)).set 0 1=oP n (m*n) [(0,0)]:=by
 have:=num_set (m:=m) (n:=n) (l:=[]) (v:=(0,0)) ⟨by simp,by simp only;omega,by simp,by simp only;omega⟩ (by simp)
 rw [num_nil] at this
 simpa [lL] using this
theorem Gt {m n:Nat} {v:Nd} (h:Q4 m n v) (hm:m<=2048) (hn:n<=2048):0<=lL n v/\lL n v<(m*n:Nat)/\0<=v.1*n/\v.1*n<=4194304/\lL n v<=4194304:=by
 obtain ⟨j,h1,h2,h3⟩:=FB h
 obtain ⟨h4,h5,h6,h7⟩:=h
 have a1:(0:Int)<=v.1*n:=Int.mul_nonneg h4 (by omega)
 have a2:m*n<=2048*2048:=tK hm hn
 have e:lL n v=v.1*n+v.2:=rfl
 refine ⟨by omega,by omega,a1,by omega,by omega⟩
theorem ZT {m n:Nat} {v:Nd} (h:Q4 m n v):Int.tdiv (lL n v) n=v.1/\Int.tmod (lL n v) n=v.2:=by
 obtain ⟨j,h1,h2,h3⟩:=FB h
 rw [h1,<- h3]
 exact ⟨(Int.ofNat_tdiv j n).symm,(Int.ofNat_tmod j n).symm⟩
end Go.FS
end
section
namespace Go.Proofs.Ytlbdmpjnmfmnfaa
open Go.RowKit Go.HL Go.FS
theorem Iw {n:Nat} {l:List Stp} {x:Stp}:(l++[x]).map (encS n)=l.map (encS n)++[encS n x]:=by simp
theorem UC (v:Nd) (n m:Nat) (one two:List A) (hv:Q4 m n v) (hm:m<=2048) (hn:n<=2048) (h1:one.length<=8192) (h2:two.length<=8192) (hone:∀a∈one,-1<=a.i/\a.i<64 /\ -1<=a.o/\a.o<64/\0<=a.t/\a.t<m) (htwo:∀a∈two,-1<=a.i/\a.i<64 /\ -1<=a.o/\a.o<64/\0<=a.t/\a.t<n) :
  HT Try.prog 82 [.int .i64 v.1,.int .i64 v.2,.sl one.length (recs aC one),.sl two.length (recs aC two),.int .i64 n] (fun r=>r=.osl 4 ((LZ one two v).map (encS n)).length (recs aC ((LZ one two v).map (encS n)))):=by
 refine HT.of rfl afJ (aZ rfl) ?_
 unfold c82
 simp only [aA,Nat.reduceAdd]
 obtain ⟨c1,c2,c3,c4,c5⟩:=Gt hv hm hn
 refine zF ⟨?_⟩
 refine aI [0,1,2,3,4,11,12] (fun k:Nat=>k<=two.length)
  (fun k=>⟨[(0,.int .i64 v.1),(1,.int .i64 v.2),(2,.sl one.length (recs aC one)),(3,.sl two.length (recs aC two)),(4,.int .i64 n),(11,.ref 0 [] 4 0 ((stA (two.take k) v).map (encS n)).length),(12,.int .i64 k)],[(0,.osl 4 ((stA (two.take k) v).map (encS n)).length (recs aC ((stA (two.take k) v).map (encS n))))],1⟩)
  (fun k=>two.length - k) 0 (by omega) rfl ?_
 intro k hk
 have hL:((stA (two.take k) v).map (encS n)).length<=k:=by
  rw [List.length_map]
  have:=Fz (two:=two.take k) (v:=v)
  rw [dS] at this;omega
 by_cases hkl:k<two.length
 ·have hst:=OY (v:=v) hkl
  have hb:=htwo _ (fJ hkl)
  by_cases hi:(two.getD k default).i = -1
  ·rw [if_pos hi] at hst
   have hs2:(stA (two.take (k+1)) v).map (encS n)=(stA (two.take k) v).map (encS n)++[⟨0,-1,(two.getD k default).o,v.1*n+(two.getD k default).t⟩]:=by rw [hst,Iw];rfl
   generalize (stA (two.take k) v).map (encS n)=Q at hs2 hL ⊢
   refine zF ⟨?_⟩
   refine bG ah ah (fun _ _ _=>False) ?_
   refine zF ⟨?_⟩
   refine aP [0,1,2,3,4,11,12] (k+1) hkl (by omega) ?_
   rw [hs2]
   simp only [bD,jQ]
   rfl
  ·rw [if_neg hi,List.append_nil] at hst
   refine zF ⟨?_⟩
   refine aP [0,1,2,3,4,11,12] (k+1) hkl (by omega) ?_
   rw [hst];rfl
 ·obtain rfl:k=two.length:=by omega
  rw [fK] at hL ⊢
  have hN:LZ one two v=stA two v++one.flatMap fun a=>xM a two v:=rfl
  have hbase:(stA two v).length<=two.length:=by simpa using hL
  refine zF ⟨?_⟩
  refine aI [0,1,2,3,4,11,13] (fun i:Nat=>i<=one.length)
   (fun i=>⟨[(0,.int .i64 v.1),(1,.int .i64 v.2),(2,.sl one.length (recs aC one)),(3,.sl two.length (recs aC two)),(4,.int .i64 n),(11,.ref 0 [] 4 0 ((stA two v++(one.take i).flatMap fun a=>xM a two v).map (encS n)).length),(13,.int .i64 i)],[(0,.osl 4 ((stA two v++(one.take i).flatMap fun a=>xM a two v).map (encS n)).length (recs aC ((stA two v++(one.take i).flatMap fun a=>xM a two v).map (encS n))))],1⟩)
   (fun i=>one.length - i) 0 (by omega) (by simp;rfl) ?_
  intro i hi
  have hLi:((stA two v++(one.take i).flatMap fun a=>xM a two v).map (encS n)).length<=8192+8192*8193:=by
   have h3:=Ff (one:=one.take i) (two:=two) (v:=v)
   have h4:(one.take i).length<=8192:=by rw [dS];omega
   have h5:=tK h4 (show two.length+1<=8193 by omega)
   rw [List.length_map,bD]
   have h6:=jc h3 h5
   omega
  by_cases hil:i<one.length
  ·have hst:=Pe (two:=two) (v:=v) hil
   have ha:=hone _ (fJ hil)
   by_cases ho:(one.getD i default).o = -1
   ·have hs2:(stA two v++(one.take (i+1)).flatMap fun a=>xM a two v).map (encS n)=(stA two v++(one.take i).flatMap fun a=>xM a two v).map (encS n)++[⟨0,(one.getD i default).i,-1,(one.getD i default).t*n+v.2⟩]:=by
     rw [hst,xM,if_pos ho,<- kQ,Iw];rfl
    generalize (stA two v++(one.take i).flatMap fun a=>xM a two v).map (encS n)=Q at hs2 hLi ⊢
    obtain ⟨d1,d2,d3,d4,d5⟩:=Gt (v:=((one.getD i default).t,v.2)) (m:=m) (n:=n) ⟨ha.2.2.2.2.1,ha.2.2.2.2.2,hv.2.2.1,hv.2.2.2⟩ hm hn
    simp only [lL] at d1 d2 d3 d4 d5
    refine zF ⟨?_⟩
    refine bG ah ah (fun _ _ _=>False) ?_
    refine zF ⟨?_⟩
    refine aP [0,1,2,3,4,11,13] (i+1) hil (by omega) ?_
    rw [hs2]
    simp only [bD,jQ]
    rfl
   ·have hs2:(stA two v++(one.take (i+1)).flatMap fun a=>xM a two v).map (encS n)=(stA two v++(one.take i).flatMap fun a=>xM a two v).map (encS n)++(stB (one.getD i default) two).map (encS n):=by
     rw [hst,xM,if_neg ho,<- kQ,qj]
    generalize (stA two v++(one.take i).flatMap fun a=>xM a two v).map (encS n)=Q at hs2 hLi ⊢
    generalize hae:one.getD i default=a at ho ha hs2
    refine eH @hae ⟨?_⟩
    refine aI [0,1,2,3,4,11,13,14] (fun k:Nat=>k<=two.length)
     (fun k=>⟨[(0,.int .i64 v.1),(1,.int .i64 v.2),(2,.sl one.length (recs aC one)),(3,.sl two.length (recs aC two)),(4,.int .i64 n),(11,.ref 0 [] 4 0 (Q++(stB a (two.take k)).map (encS n)).length),(13,.int .i64 i),(14,.int .i64 k)],[(0,.osl 4 (Q++(stB a (two.take k)).map (encS n)).length (recs aC (Q++(stB a (two.take k)).map (encS n))))],1⟩)
     (fun k=>two.length - k) 0 (by omega) (by simp [stB];rfl) ?_
    intro k hk2
    have hLk:(Q++(stB a (two.take k)).map (encS n)).length<=8192+8192*8193+8192:=by
     have:=Kz (a:=a) (two:=two.take k)
     rw [dS] at this
     rw [bD,List.length_map];omega
    by_cases hkl:k<two.length
    ·have hst:=Og (a:=a) hkl
     have hb:=htwo _ (fJ hkl)
     by_cases he:(two.getD k default).i=a.o
     ·rw [if_pos he] at hst
      have hs3:Q++(stB a (two.take (k+1))).map (encS n)=(Q++(stB a (two.take k)).map (encS n))++[⟨0,a.i,(two.getD k default).o,a.t*n+(two.getD k default).t⟩]:=by rw [hst,Iw,kQ];rfl
      generalize Q++(stB a (two.take k)).map (encS n)=Q2 at hs3 hLk ⊢
      obtain ⟨d1,d2,d3,d4,d5⟩:=Gt (v:=(a.t,(two.getD k default).t)) (m:=m) (n:=n) ⟨ha.2.2.2.2.1,ha.2.2.2.2.2,hb.2.2.2.2.1,hb.2.2.2.2.2⟩ hm hn
      simp only [lL] at d1 d2 d3 d4 d5
      refine zF ⟨?_⟩
      refine bG ah ah (fun _ _ _=>False) ?_
      refine eH @hae ⟨?_⟩
      refine bG ah ah (fun _ _ _=>False) ?_
      refine eH @hae ⟨?_⟩
      refine aP [0,1,2,3,4,11,13,14] (k+1) hkl (by omega) ?_
      rw [hs3]
      simp only [bD,jQ]
      rfl
     ·rw [if_neg he,List.append_nil] at hst
      refine zF ⟨?_⟩
      refine bG ah ah (fun _ _ _=>False) ?_
      refine eH @hae ⟨?_⟩
      refine aP [0,1,2,3,4,11,13,14] (k+1) hkl (by omega) ?_
      rw [hst];rfl
    ·obtain rfl:k=two.length:=by omega
     rw [fK]
     refine zF ⟨?_⟩
     refine aP [0,1,2,3,4,11,13] (i+1) hil (by omega) ?_
     rw [hs2];rfl
  ·obtain rfl:i=one.length:=by omega
   rw [fK,<- hN]
   refine zF ⟨?_⟩
   refine ae ?_
   rfl
end Go.Proofs.Ytlbdmpjnmfmnfaa
end
