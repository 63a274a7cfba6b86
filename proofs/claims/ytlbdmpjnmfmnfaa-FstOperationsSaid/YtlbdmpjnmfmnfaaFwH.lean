import Derived.Test.YtlbdmpjnmfmnfaaFwI
import Derived.Test.YtlbdmpjnmfmnfaaHlF2
import Derived.Test.YtlbdmpjnmfmnfaaFsB
import Derived.Test.YtlbdmpjnmfmnfaaFv9
import Derived.Test.YtlbdmpjnmfmnfaaFwLb
set_option linter.unusedSimpArgs false
set_option linter.unusedVariables false
set_option linter.unnecessarySimpa false
set_option maxHeartbeats 32000000
section
namespace Go.Proofs.Ytlbdmpjnmfmnfaa
open Go.RowKit Go.HL Go.FS
def dSm (d:Dz):Prop:=d.nx.length<=100/\d.fn.length<=100/\∀r∈d.nx,r.length<=1000000
abbrev spK:HV->Prop:=KC [.c 8 true 3] fun r=>∃d:Dz,r=.agg (dC d)/\dSm d
theorem sW (C:List HV) (d:Dz) (hC:stripL C=dC d) (hd:dSm d):hx Try.prog [.c Xj] (finish [8] spK) ⟨[(8,.pref 0 [] 0),(9,.pref 1 [] 0)],[(0,.optr [.int .i64 0,.nils,.nils]),(1,.optr C)],2⟩:=by
 refine az 1 [8,9] ⟨[(8,.pref 0 [] 0),(9,.ptr (stripL C) 0)],[(0,.optr [.int .i64 0,.nils,.nils])],1⟩ rfl ?_
 rw [hC]
 simp only [dC]
 refine zF ⟨?_⟩
 refine ae ?_
 exact ⟨_,_,rfl,rfl,d,rfl,hd⟩
theorem BH {L:List (List Int)} {k:Nat} {u v:List Int} (h:v∈L.set k u):v∈L\/v=u:=List.mem_or_eq_of_mem_set h
theorem aaW (a:Int) (h : -9223372036854775808<=a/\a<=9223372036854775807) : -9223372036854775808<=Int.tdiv a 8/\Int.tdiv a 8<=9223372036854775807:=by
 by_cases h0:0<=a
 ·rw [GZ h0];omega
 ·obtain ⟨b,rfl⟩:∃b,a = -b:=⟨-a,by omega⟩
  rw [Int.neg_tdiv,GZ (by omega)];omega
theorem Zo (L:List (List Int)) (k:Nat) (u:List Int) {n:Nat} (h:n=u.length):(iT L).set k (.sl n (HL.ints u))=iT (L.set k u):=by subst h;simp [iT,List.map_set]
theorem wI0 (l:List Int) (k:Nat):win (HL.ints l) 0 k=HL.ints (l.take k):=by
 unfold win
 split
 ·rename_i h;rw [kD (by rw [h.2,HL.ints_len];omega)]
 ·simp [HL.ints]
theorem wB0 (l:List Bool) (k:Nat):win (HL.bools l) 0 k=HL.bools (l.take k):=by
 unfold win
 split
 ·rename_i h;rw [kD (by rw [h.2,HL.bools_len];omega)]
 ·simp [HL.bools]
theorem wT0 (l:List (List Int)) (k:Nat):win (iT l) 0 k=iT (l.take k):=by
 unfold win
 split
 ·rename_i h;rw [kD (by rw [h.2,Qq];omega)]
 ·simp [iT]
theorem wB1 (l:List Bool) {k:Nat} (h:k=l.length - 1):win (HL.bools l) (Int.toNat 1) k=HL.bools (l.drop 1):=by
 subst h
 show (if 1=0/\_ then _ else ((HL.bools l).drop 1).take (l.length - 1))=_
 rw [if_neg (by omega)]
 simp [HL.bools,kD]
theorem PY (d:Dz) (at_ how b:Int) (size:Nat) (h1:1<=d.nx.length) (h2:d.nx.length<=7) (h3:d.fn.length=d.nx.length) (h4:1<=size) (h5:size<=100) (h6:∀u∈d.nx,u.length=size) (ha : -9223372036854775808<=at_/\at_<=9223372036854775807) (hh : -9223372036854775808<=how/\how<=9223372036854775807) (hb : -9223372036854775808<=b/\b<=9223372036854775807) :
  HT Try.prog 42 [.agg (dC d),.int .i64 at_,.int .i64 how,.int .i64 b] (fun r=>∃d:Dz,r=.agg (dC d)/\dSm d):=by
 refine HT.ofC rfl agy [8] rfl (aZ rfl) ?_
 unfold c42
 simp only [aA,Nat.reduceAdd,dC]
 refine zF ⟨?_⟩
 refine aX 80 [0,1,1] [1,2,3,4,8,9,10] (⟨[(1,.int .i64 at_),(2,.int .i64 how),(3,.int .i64 b),(4,.pref 0 [] 0),(8,.pref 1 [] 0),(9,.pref 2 [] 0),(10,.int .i64 0)],[(0,.optr [.int .i64 d.sz,.sl d.nx.length (iT d.nx),.sl d.fn.length (HL.bools d.fn)]),(1,.optr [.int .i64 0,.nils,.nils]),(2,.optr [.int .i64 d.sz,.osl 1 0 [],.osl 1 0 []])],3⟩:St) rfl rfl ?_
 refine az 0 [1,2,3,4,8,9,10] ⟨[(1,.int .i64 at_),(2,.int .i64 how),(3,.int .i64 b),(4,.ptr (stripL [.int .i64 d.sz,.sl d.nx.length (iT d.nx),.sl d.fn.length (HL.bools d.fn)]) 0),(8,.pref 0 [] 0),(9,.pref 1 [] 0),(10,.int .i64 0)],[(0,.optr [.int .i64 0,.nils,.nils]),(1,.optr [.int .i64 d.sz,.osl 1 0 [],.osl 1 0 []])],2⟩ rfl ?_
 rw [xZ]
 refine aI [1,2,3,4,8,9,10] (fun i:Nat=>i<=d.nx.length) (fun i=>⟨[(1,.int .i64 at_),(2,.int .i64 how),(3,.int .i64 b),(4,.ptr [.int .i64 d.sz,.sl d.nx.length (iT d.nx),.sl d.fn.length (HL.bools d.fn)] 0),(8,.pref 0 [] 0),(9,.pref 1 [] 0),(10,.int .i64 i)],[(0,.optr [.int .i64 0,.nils,.nils]),(1,.optr [.int .i64 d.sz,.osl 1 (d.nx.take i).length (iO (d.nx.take i)),.osl 1 ([]:List Bool).length (HL.bools [])])],2⟩) (fun i=>d.nx.length - i) 0 (by omega) rfl ?_
 intro i hi
 have htl:(d.nx.take i).length=i:=by rw [dS];omega
 by_cases hil:i<d.nx.length
 ·have hts:d.nx.take i++[d.nx.getD i []]=d.nx.take (i+1):=by rw [vV];simp [hil]
  have hrm:d.nx.getD i []∈d.nx:=by rw [bH,bM hil];exact gy hil
  have hrl:=h6 _ hrm
  refine aH ?_
  refine aH ?_
  refine au ?_
  refine zQ ⟨?_⟩
  refine jh (by rfl) ?_
  refine jD ?_
  refine aY [1,2,3,4,8,9,10] ⟨[(1,.int .i64 at_),(2,.int .i64 how),(3,.int .i64 b),(4,.ptr [.int .i64 d.sz,.sl d.nx.length (iT d.nx),.sl d.fn.length (HL.bools d.fn)] 0),(8,.pref 0 [] 0),(9,.pref 1 [] 0),(10,.int .i64 i)],[(0,.optr [.int .i64 0,.nils,.nils]),(1,.optr [.int .i64 d.sz,.osl 1 (d.nx.take i).length (iO (d.nx.take i)),.osl 1 ([]:List Bool).length (HL.bools [])])],2⟩ rfl ?_
  refine acC at_ how b d.sz d.nx d.sz d.fn (d.nx.take i) [] i hil (by omega) (by omega) ?_
  rw [hts]
  refine zF ⟨?_⟩
  exact aP [1,2,3,4,8,9,10] (i+1) hil (by omega) rfl
 ·obtain rfl:i=d.nx.length:=by omega
  rw [fK] at htl ⊢
  obtain ⟨n,hn⟩:∃n,d.nx.length=n:=⟨_,rfl⟩
  obtain ⟨L,hL⟩:∃L,d.nx=L:=⟨_,rfl⟩
  obtain ⟨fn,hfn⟩:∃fn,d.fn=fn:=⟨_,rfl⟩
  have hLl:L.length=n:=by rw [<- hL];exact hn
  have hfl:fn.length=n:=by rw [<- hfn,h3];exact hn
  have hn1:1<=n:=by omega
  have hn2:n<=7:=by omega
  rw [hL] at h6
  simp only [hn,hL,hfn]
  have ar:=mO at_ n (by omega) (by omega) ha.1 ha.2
  refine eH (zA @hLl @hfl) ⟨?_⟩
  refine aF ay aK (ar) ?_
  rintro _ ⟨K,rfl,hK⟩
  refine zG ⟨?_⟩
  have hKm:L.getD K []∈L:=by rw [bH,bM (show K<L.length by omega)];exact gy _
  have hKl:=h6 _ hKm
  have hq:=aaW at_ ha
  have as_:=mO (Int.tdiv at_ 8) size (by omega) (by omega) hq.1 hq.2
  have hw8:IntKind.i64.wrap (Int.tdiv at_ 8)=Int.tdiv at_ 8:=IntWalk.i64_in _ hq
  refine eH (zA @hLl (zA @hfl (zA @hKl @hw8))) ⟨?_⟩
  refine aF ay aK (as_) ?_
  rintro _ ⟨S,rfl,hS⟩
  refine zG ⟨?_⟩
  refine zQ ⟨?_⟩
  rw [show win (HL.bools []) 0 0++HL.bools fn=HL.bools fn from rfl]
  refine aY [2,3,8,9,11,12] ⟨[(2,.int .i64 how),(3,.int .i64 b),(8,.pref 0 [] 0),(9,.pref 1 [] 0),(11,.int .i64 K),(12,.int .i64 S)],[(0,.optr [.int .i64 0,.nils,.nils]),(1,.optr [.int .i64 d.sz,.osl 1 n (iO L),.osl 1 n (HL.bools fn)])],2⟩ rfl ?_
  refine aH ?_
  refine aH ?_
  refine au ?_
  refine zQ ⟨?_⟩
  refine aF ay aK (mO how 8 (by omega) (by omega) hh.1 hh.2) ?_
  rintro _ ⟨y,rfl,hy⟩
  refine zG ⟨?_⟩
  have hsm:∀ (sz:Int) (L2:List (List Int)) (f2:List Bool),L2.length<=7->f2.length<=7->(∀r∈L2,r.length<=101)->dSm ⟨sz,L2,f2⟩:=fun sz L2 f2 e1 e2 e3=>⟨by simp only;omega,by simp only;omega,fun r hr=>by have:=e3 r hr;omega⟩
  have hL6:∀r∈L,r.length<=101:=fun r hr=>by rw [h6 r hr];omega
  have hKlt:K<L.length:=by omega
  have e1:(L.length=n):=hLl
  obtain rfl|rfl|rfl|rfl|rfl|rfl|rfl|rfl:y=0\/y=1\/y=2\/y=3\/y=4\/y=5\/y=6\/y=7:=by omega
  ·refine zQ ⟨?_⟩
   refine jC ?_
   refine aH ?_
   refine au ?_
   refine zQ ⟨?_⟩
   refine jh (by rfl) ?_
   refine au ?_
   refine zQ ⟨?_⟩
   refine aY [8,9] ⟨[(8,.pref 0 [] 0),(9,.pref 1 [] 0)],[(0,.optr [.int .i64 0,.nils,.nils]),(1,.optr [.int .i64 b,.osl 1 n (iO L),.osl 1 n (HL.bools fn)])],2⟩ rfl ?_
   exact sW _ ⟨b,L,fn⟩ (by rw [lZ];simp only [dC,hLl,hfl]) (hsm _ _ _ (by omega) (by omega) hL6)
  ·refine zQ ⟨?_⟩
   refine jC ?_
   refine aH ?_
   refine au ?_
   refine zQ ⟨?_⟩
   refine bu (by rfl) ?_
   refine aH ?_
   refine au ?_
   refine zQ ⟨?_⟩
   refine jh (by rfl) ?_
   have hg:=GV L (i:=K) (by omega)
   have hng:aB (.optr [.int .i64 d.sz,.osl 1 n (iO L),.osl 1 n (HL.bools fn)]) [0+1,K]=.osl 1 (L.getD K []).length (HL.ints (L.getD K [])):=hg
   have hset:(iO L).set K (.osl 1 (L.getD K []).length (HL.ints ((L.getD K []).set S b)))=iO (L.set K ((L.getD K []).set S b)):=by simp [iO,List.map_set]
   refine aY [3,8,9,11,12] ⟨[(3,.int .i64 b),(8,.pref 0 [] 0),(9,.pref 1 [] 0),(11,.int .i64 K),(12,.int .i64 S)],[(0,.optr [.int .i64 0,.nils,.nils]),(1,.optr [.int .i64 d.sz,.osl 1 n (iO L),.osl 1 n (HL.bools fn)])],2⟩ rfl ?_
   refine au ?_
   refine Na (zA @hLl (zA @hfl (zA @hg @hKl))) ⟨?_⟩
   refine Ov (ws:=[.int .i64 b]) (cs:=HL.ints (L.getD K [])) (cs':=HL.ints ((L.getD K []).set S b)) (u:=(.optr [.int .i64 d.sz,.osl 1 n (iO L),.osl 1 n (HL.bools fn)])) (path:=[0+1,K]) (off:=S) (v:=.optr [.int .i64 d.sz,.osl 1 n (iO (L.set K ((L.getD K []).set S b))),.osl 1 n (HL.bools fn)]) rfl rfl rfl rfl rfl rO rfl (by rw [hng];rfl) (by rw [HL.ints_len];omega) (HL.ints_set _ _) (by rw [hng,<- hset];rfl) ?_
   refine zQ ⟨?_⟩
   refine aY [8,9] ⟨[(8,.pref 0 [] 0),(9,.pref 1 [] 0)],[(0,.optr [.int .i64 0,.nils,.nils]),(1,.optr [.int .i64 d.sz,.osl 1 n (iO (L.set K ((L.getD K []).set S b))),.osl 1 n (HL.bools fn)])],2⟩ rfl ?_
   exact sW _ ⟨d.sz,L.set K ((L.getD K []).set S b),fn⟩ (by rw [lZ];simp only [dC,List.length_set,hLl,hfl]) (hsm _ _ _ (by rw [List.length_set];omega) (by omega) fun r hr=>by
    rcases BH hr with h|h
    ·exact hL6 r h
    ·rw [h,List.length_set];exact hL6 _ hKm)
  ·refine zQ ⟨?_⟩
   refine jC ?_
   refine aH ?_
   refine au ?_
   refine zQ ⟨?_⟩
   refine bu (by rfl) ?_
   refine aH ?_
   refine au ?_
   refine zQ ⟨?_⟩
   refine bu (by rfl) ?_
   refine aH ?_
   refine au ?_
   refine zQ ⟨?_⟩
   refine jh (by rfl) ?_
   refine aY [8,9,3,11,12] ⟨[(8,.pref 0 [] 0),(9,.pref 1 [] 0),(3,.int .i64 b),(11,.int .i64 K),(12,.int .i64 S)],[(0,.optr [.int .i64 0,.nils,.nils]),(1,.optr [.int .i64 d.sz,.osl 1 n (iO L),.osl 1 n (HL.bools fn)])],2⟩ rfl ?_
   rw [show HV.osl 1 n (HL.bools fn)=HV.osl 1 fn.length (HL.bools fn) by rw [hfl]]
   refine ace d.sz b L fn K S n hLl (by omega) hK (by omega) hb fun z=>?_
   exact sW _ ⟨d.sz,L.set K ((L.getD K []).set S z),fn⟩ (by rw [lZ];simp only [dC,List.length_set,hLl,hfl]) (hsm _ _ _ (by rw [List.length_set];omega) (by omega) fun r hr=>by
    rcases BH hr with h|h
    ·exact hL6 r h
    ·rw [h,List.length_set];exact hL6 _ hKm)
  ·refine zQ ⟨?_⟩
   refine jC ?_
   refine aH ?_
   refine au ?_
   refine zQ ⟨?_⟩
   refine bu (by rfl) ?_
   refine aH ?_
   refine au ?_
   refine zQ ⟨?_⟩
   refine bu (by rfl) ?_
   refine aH ?_
   refine au ?_
   refine zQ ⟨?_⟩
   refine bu (by rfl) ?_
   refine aH ?_
   refine au ?_
   refine zQ ⟨?_⟩
   refine jh (by rfl) ?_
   have hg:=QJ L (i:=K) (by omega)
   refine IL 1 [8,9,11,12] ⟨[(8,.pref 0 [] 0),(9,.pref 1 [] 0),(11,.int .i64 K),(12,.int .i64 S)],[(0,.optr [.int .i64 0,.nils,.nils]),(1,.optr ([.int .i64 d.sz,.osl 1 n (iO L),.osl 1 n (HL.bools fn)].map rows1))],2⟩ rfl rfl ?_
   rw [show [HV.int .i64 d.sz,.osl 1 n (iO L),.osl 1 n (HL.bools fn)].map rows1=[.int .i64 d.sz,.osl 1 n (iT L),.osl 1 n (HL.bools fn)] from by show [HV.int .i64 d.sz,.osl 1 n (stripL (iO L)),.osl 1 n (stripL (HL.bools fn))]=_;rw [Dp,HL.bools_strip]]
   refine bG ah ah (fun _ _ _=>False) ?_
   refine Na (zA @hLl (zA @hfl (zA @hg @hKl))) ⟨?_⟩
   refine aY [8,9] ⟨[(8,.pref 0 [] 0),(9,.pref 1 [] 0)],[(0,.optr [.int .i64 0,.nils,.nils]),(1,.optr [.int .i64 d.sz,.osl 1 n ((iT L).set K (.sl S (win (HL.ints (L.getD K [])) 0 S))),.osl 1 n (HL.bools fn)])],2⟩ rfl ?_
   exact sW _ ⟨d.sz,L.set K ((L.getD K []).take S),fn⟩ (by rw [wI0,Zo _ _ _ (by rw [dS,hKl];omega)];simp [stripL,HV.strip,yZ,HL.bools_strip,dC,hLl,hfl,List.length_set]) (hsm _ _ _ (by rw [List.length_set];omega) (by omega) fun r hr=>by
    rcases BH hr with h|h
    ·exact hL6 r h
    ·rw [h,dS,hKl];omega)
  ·refine zQ ⟨?_⟩
   refine jC ?_
   refine aH ?_
   refine au ?_
   refine zQ ⟨?_⟩
   refine bu (by rfl) ?_
   refine aH ?_
   refine au ?_
   refine zQ ⟨?_⟩
   refine bu (by rfl) ?_
   refine aH ?_
   refine au ?_
   refine zQ ⟨?_⟩
   refine bu (by rfl) ?_
   refine aH ?_
   refine au ?_
   refine zQ ⟨?_⟩
   refine bu (by rfl) ?_
   refine aH ?_
   refine au ?_
   refine zQ ⟨?_⟩
   refine jh (by rfl) ?_
   refine aY [8,9,11] ⟨[(8,.pref 0 [] 0),(9,.pref 1 [] 0),(11,.int .i64 K)],[(0,.optr [.int .i64 0,.nils,.nils]),(1,.optr [.int .i64 d.sz,.osl 1 n (iO L),.osl 1 n (HL.bools fn)])],2⟩ rfl ?_
   rw [show HV.osl 1 n (HL.bools fn)=HV.osl 1 fn.length (HL.bools fn) by rw [hfl]]
   refine acT d.sz L fn K n hLl hK (by omega) ?_
   exact sW _ ⟨d.sz,L.set K (L.getD K []++[0]),fn⟩ (by rw [lZ];simp only [dC,List.length_set,hLl,hfl]) (hsm _ _ _ (by rw [List.length_set];omega) (by omega) fun r hr=>by
    rcases BH hr with h|h
    ·exact hL6 r h
    ·rw [h,bD,hKl];simp only [jQ];omega)
  ·refine zQ ⟨?_⟩
   refine jC ?_
   refine aH ?_
   refine au ?_
   refine zQ ⟨?_⟩
   refine bu (by rfl) ?_
   refine aH ?_
   refine au ?_
   refine zQ ⟨?_⟩
   refine bu (by rfl) ?_
   refine aH ?_
   refine au ?_
   refine zQ ⟨?_⟩
   refine bu (by rfl) ?_
   refine aH ?_
   refine au ?_
   refine zQ ⟨?_⟩
   refine bu (by rfl) ?_
   refine aH ?_
   refine au ?_
   refine zQ ⟨?_⟩
   refine bu (by rfl) ?_
   refine aH ?_
   refine au ?_
   refine zQ ⟨?_⟩
   refine jh (by rfl) ?_
   refine bQ 1 [8,9,11] ⟨[(8,.pref 0 [] 0),(9,.pref 1 [] 0),(11,.int .i64 K)],[(0,.optr [.int .i64 0,.nils,.nils]),(1,.optr (stripL [.int .i64 d.sz,.osl 1 n (iO L),.osl 1 n (HL.bools fn)]))],2⟩ rfl rfl ?_
   rw [lZ]
   refine au ?_
   refine Na (zA @hLl @hfl) ⟨?_⟩
   refine aY [8,9] ⟨[(8,.pref 0 [] 0),(9,.pref 1 [] 0)],[(0,.optr [.int .i64 0,.nils,.nils]),(1,.optr [.int .i64 d.sz,.sl n (iT L),.sl ((n:Int) - 1).toNat (win (HL.bools fn) (Int.toNat 1) ((n:Int) - 1).toNat)])],2⟩ rfl ?_
   exact sW _ ⟨d.sz,L,fn.drop 1⟩ (by rw [wB1 fn (by omega),show ((n:Int) - 1).toNat=n - 1 by omega];simp [stripL,HV.strip,yZ,HL.bools_strip,dC,hLl,hfl]) (hsm _ _ _ (by omega) (by rw [pX];omega) hL6)
  ·refine zQ ⟨?_⟩
   refine jC ?_
   refine aH ?_
   refine au ?_
   refine zQ ⟨?_⟩
   refine bu (by rfl) ?_
   refine aH ?_
   refine au ?_
   refine zQ ⟨?_⟩
   refine bu (by rfl) ?_
   refine aH ?_
   refine au ?_
   refine zQ ⟨?_⟩
   refine bu (by rfl) ?_
   refine aH ?_
   refine au ?_
   refine zQ ⟨?_⟩
   refine bu (by rfl) ?_
   refine aH ?_
   refine au ?_
   refine zQ ⟨?_⟩
   refine bu (by rfl) ?_
   refine aH ?_
   refine au ?_
   refine zQ ⟨?_⟩
   refine bu (by rfl) ?_
   refine aH ?_
   refine au ?_
   refine zQ ⟨?_⟩
   refine jh (by rfl) ?_
   refine bQ 1 [8,9,11] ⟨[(8,.pref 0 [] 0),(9,.pref 1 [] 0),(11,.int .i64 K)],[(0,.optr [.int .i64 0,.nils,.nils]),(1,.optr (stripL [.int .i64 d.sz,.osl 1 n (iO L),.osl 1 n (HL.bools fn)]))],2⟩ rfl rfl ?_
   rw [lZ]
   refine aH ?_
   refine au ?_
   refine Na (zA @hLl @hfl) ⟨?_⟩
   refine au ?_
   refine Na (zA @hLl @hfl) ⟨?_⟩
   refine aY [8,9] ⟨[(8,.pref 0 [] 0),(9,.pref 1 [] 0)],[(0,.optr [.int .i64 0,.nils,.nils]),(1,.optr [.int .i64 d.sz,.sl K (win (iT L) 0 K),.sl K (win (HL.bools fn) 0 K)])],2⟩ rfl ?_
   exact sW _ ⟨d.sz,L.take K,fn.take K⟩ (by rw [wT0,wB0];simp only [stripL,HV.strip,yZ,HL.bools_strip,dC,dS,hLl,hfl,EK (Nat.le_of_lt hK)]) (hsm _ _ _ (by rw [dS];omega) (by rw [dS];omega) fun r hr=>hL6 r (Es hr))
  ·refine zQ ⟨?_⟩
   refine jC ?_
   refine aH ?_
   refine au ?_
   refine zQ ⟨?_⟩
   refine bu (by rfl) ?_
   refine aH ?_
   refine au ?_
   refine zQ ⟨?_⟩
   refine bu (by rfl) ?_
   refine aH ?_
   refine au ?_
   refine zQ ⟨?_⟩
   refine bu (by rfl) ?_
   refine aH ?_
   refine au ?_
   refine zQ ⟨?_⟩
   refine bu (by rfl) ?_
   refine aH ?_
   refine au ?_
   refine zQ ⟨?_⟩
   refine bu (by rfl) ?_
   refine aH ?_
   refine au ?_
   refine zQ ⟨?_⟩
   refine bu (by rfl) ?_
   refine aH ?_
   refine au ?_
   refine zQ ⟨?_⟩
   refine bu (by rfl) ?_
   refine aY [3,8,9] ⟨[(3,.int .i64 b),(8,.pref 0 [] 0),(9,.pref 1 [] 0)],[(0,.optr [.int .i64 0,.nils,.nils]),(1,.optr [.int .i64 d.sz,.osl 1 n (iO L),.osl 1 n (HL.bools fn)])],2⟩ rfl ?_
   refine au ?_
   refine zQ ⟨?_⟩
   refine aF ay aK (mO b 4 (by omega) (by omega) hb.1 hb.2) ?_
   rintro _ ⟨y,rfl,hy⟩
   refine zG ⟨?_⟩
   obtain rfl|rfl|rfl|rfl:y=0\/y=1\/y=2\/y=3:=by omega
   ·refine zQ ⟨?_⟩
    refine aY [8,9] ⟨[(8,.pref 0 [] 0),(9,.pref 1 [] 0)],[(0,.optr [.int .i64 0,.nils,.nils]),(1,.optr [.int .i64 0,.osl 1 n (iO L),.osl 1 n (HL.bools fn)])],2⟩ rfl ?_
    exact sW _ ⟨0,L,fn⟩ (by rw [lZ];simp only [dC,hLl,hfl]) (hsm _ _ _ (by omega) (by omega) hL6)
   ·refine zQ ⟨?_⟩
    refine aY [8,9] ⟨[(8,.pref 0 [] 0),(9,.pref 1 [] 0)],[(0,.optr [.int .i64 0,.nils,.nils]),(1,.optr [.int .i64 64,.osl 1 n (iO L),.osl 1 n (HL.bools fn)])],2⟩ rfl ?_
    exact sW _ ⟨64,L,fn⟩ (by rw [lZ];simp only [dC,hLl,hfl]) (hsm _ _ _ (by omega) (by omega) hL6)
   ·refine zQ ⟨?_⟩
    refine aY [8,9] ⟨[(8,.pref 0 [] 0),(9,.pref 1 [] 0)],[(0,.optr [.int .i64 0,.nils,.nils]),(1,.optr [.int .i64 65,.osl 1 n (iO L),.osl 1 n (HL.bools fn)])],2⟩ rfl ?_
    exact sW _ ⟨65,L,fn⟩ (by rw [lZ];simp only [dC,hLl,hfl]) (hsm _ _ _ (by omega) (by omega) hL6)
   ·refine zQ ⟨?_⟩
    refine aY [8,9] ⟨[(8,.pref 0 [] 0),(9,.pref 1 [] 0)],[(0,.optr [.int .i64 0,.nils,.nils]),(1,.optr [.int .i64 (-1),.osl 1 n (iO L),.osl 1 n (HL.bools fn)])],2⟩ rfl ?_
    exact sW _ ⟨(-1),L,fn⟩ (by rw [lZ];simp only [dC,hLl,hfl]) (hsm _ _ _ (by omega) (by omega) hL6)
theorem UD (w:List Int) (h:3<w.length):win (HL.ints w) 3 (w.length - 3)=HL.ints (w.drop 3):=by
 unfold win
 rw [if_neg (by omega)]
 have hl:(HL.ints w).length=w.length:=HL.ints_len w
 rw [kD (by rw [pX];omega)]
 simp [HL.ints,List.map_drop]
theorem acs:Int.toNat 3=3:=rfl
theorem pF (x:Tn) (w:List Int) (hx1:x.1.length<=9000) (hx2:x.2.length<=9000) (hw:w.length<=9223372036854775807) (hwr:∀k,k<w.length -> -9223372036854775808<=w.getD k 0/\w.getD k 0<=9223372036854775807):HT Try.prog 36 [.agg (fC x),.agg (fC x),I w] (fun r=>r=.bool true):=by
 refine HT.of rfl afT (aZ rfl) ?_
 unfold c36
 have v1:=lK x.1 x.2 (by omega) (by omega)
 simp only [aA,Nat.reduceAdd,fC,I]
 simp only [dE,fB] at v1
 obtain ⟨vb,hvb⟩:∃vb,okF x.1 x.2=vb:=⟨_,rfl⟩
 rw [hvb] at v1
 have hd:∃v,v=HV.bool vb/\v.deep=[]:=⟨_,rfl,rfl⟩
 refine zF ⟨?_⟩
 refine bG ah ah (fun _ _ r=>r=.bool vb) ?_
 refine zF ⟨?_⟩
 refine bI ay aK v1 hd ?_
 rintro _ rfl -
 refine zG ⟨?_⟩
 refine zF ⟨?_⟩
 refine bI ay aK v1 hd ?_
 rintro _ rfl -
 refine zG ⟨?_⟩
 have hbb:(vb != vb)=false:=by cases vb<;>rfl
 refine eH @hbb ⟨?_⟩
 refine az 0 [2,3,4,7] ⟨[(2,.sl w.length (HL.ints w)),(3,.ptr (stripL [.sl x.1.length (HL.bools x.1),.sl x.2.length (recs aC x.2)]) 0),(4,.pref 0 [] 0),(7,.int .i64 0)],[(0,.optr [.sl x.1.length (HL.bools x.1),.sl x.2.length (recs aC x.2)])],1⟩ rfl ?_
 rw [gu]
 refine az 0 [2,3,4,7] ⟨[(2,.sl w.length (HL.ints w)),(3,.ptr [.sl x.1.length (HL.bools x.1),.sl x.2.length (recs aC x.2)] 0),(4,.ptr (stripL [.sl x.1.length (HL.bools x.1),.sl x.2.length (recs aC x.2)]) 0),(7,.int .i64 0)],[],0⟩ rfl ?_
 rw [gu]
 refine aI [2,3,4,7] (fun i:Nat=>i<=6) (fun i=>⟨[(2,.sl w.length (HL.ints w)),(3,.ptr [.sl x.1.length (HL.bools x.1),.sl x.2.length (recs aC x.2)] 0),(4,.ptr [.sl x.1.length (HL.bools x.1),.sl x.2.length (recs aC x.2)] 0),(7,.int .i64 i)],[],0⟩) (fun i=>6 - i) 0 (by omega) rfl ?_
 intro i hi
 by_cases hi6:i<6
 ·refine aH ?_
  refine aH ?_
  refine au ?_
  refine zQ ⟨?_⟩
  refine jh (by rfl) ?_
  refine jD ?_
  refine aH ?_
  refine jC ?_
  refine aH ?_
  refine au ?_
  refine zQ ⟨?_⟩
  refine aF ay vO (BF w i hw (by omega) hwr) ?_
  rintro _ ⟨u0,rfl,hu0⟩
  refine zG ⟨?_⟩
  refine zQ ⟨?_⟩
  refine az 64 [2,3,4,7,8] ⟨[(2,.sl w.length (HL.ints w)),(3,.ptr [.sl x.1.length (HL.bools x.1),.sl x.2.length (recs aC x.2)] 0),(4,.ptr [.sl x.1.length (HL.bools x.1),.sl x.2.length (recs aC x.2)] 0),(7,.int .i64 i),(8,.sl u0.length (stripL (win (HL.ints u0) 0 (u0.length*1))))],[],0⟩ rfl ?_
  rw [show stripL (win (HL.ints u0) 0 (u0.length*1))=HL.ints u0 by rw [eG _ (by simp [HL.ints]),HL.ints_strip]]
  apply LU (P:=Try.prog) (fun u:List Int=>(⟨[(2,.sl w.length (HL.ints w)),(3,.ptr [.sl x.1.length (HL.bools x.1),.sl x.2.length (recs aC x.2)] 0),(4,.ptr [.sl x.1.length (HL.bools x.1),.sl x.2.length (recs aC x.2)] 0),(7,.int .i64 i),(8,.sl u.length (HL.ints u))],[],0⟩:St)) (fun u=>u.length<=6)
  ·intro key
   by_cases hc:i=5
   ·by_cases hc2:3<w.length
    ·have hz:((w.length:Int) - 3).toNat=w.length - 3:=by omega
     have hwn:=UD w hc2
     have hdl:(w.drop 3).length=w.length - 3:=pX ..
     have hwd:=BF (w.drop 3) 4 (by omega) (by omega) (fun k hk=>by
      have:=hwr (3+k) (by omega)
      simpa only [bH,CX] using this)
     simp only [I,hdl] at hwd
     refine aH ?_
     refine aH ?_
     refine au ?_
     refine zQ ⟨?_⟩
     refine jh (by rfl) ?_
     refine au ?_
     refine Na (zA @hz @hwn) ⟨?_⟩
     refine aF ay (zW (zA @hz (zA @acs @hwn))) (hwd) ?_
     rintro _ ⟨u,rfl,hu⟩
     refine zG ⟨?_⟩
     refine zQ ⟨?_⟩
     refine az 144 [2,3,4,7,8] ⟨[(2,.sl w.length (HL.ints w)),(3,.ptr [.sl x.1.length (HL.bools x.1),.sl x.2.length (recs aC x.2)] 0),(4,.ptr [.sl x.1.length (HL.bools x.1),.sl x.2.length (recs aC x.2)] 0),(7,.int .i64 i),(8,.sl u.length (stripL (win (HL.ints u) 0 (u.length*1))))],[],0⟩ rfl ?_
     rw [show stripL (win (HL.ints u) 0 (u.length*1))=HL.ints u by rw [eG _ (by simp [HL.ints]),HL.ints_strip]]
     exact key u (by omega)
    ·refine aH ?_
     refine aH ?_
     refine au ?_
     refine zQ ⟨?_⟩
     refine bu (by rfl) ?_
     refine jD ?_
     exact aY [2,3,4,7,8] _ rfl (key u0 (by omega))
   ·have hc3:¬ (i:Int)=5:=by omega
    refine aH ?_
    refine aH ?_
    refine au ?_
    refine zQ ⟨?_⟩
    refine bu (by rfl) ?_
    refine jD ?_
    exact aY [2,3,4,7,8] _ rfl (key u0 (by omega))
  intro u hu
  have a1:=Rl x.1 x.2 u 12 (by omega) (by omega) (by omega)
  have hl:=Sl x.1 x.2 u 12
  simp only [apT,dE,fB] at a1
  generalize IC x.1 x.2 u 12=f at a1 hl
  have hs:=wS f.1 f.1 (by omega) (by omega) (fun u hu=>jc (hl.2 u hu) (by decide)) (fun u hu=>jc (hl.2 u hu) (by decide))
  rw [decide_eq_true rfl] at hs
  have hwf:stripL (win (wds f.1) 0 f.1.length)=wds f.1:=by have:=Ti f.1;rw [Nat.mul_one] at this;rw [this,VI]
  refine zF ⟨?_⟩
  refine aF ay aK (a1) ?_
  rintro _ rfl
  refine zG ⟨?_⟩
  refine zF ⟨?_⟩
  refine aF ay aK (a1) ?_
  rintro _ rfl
  refine zG ⟨?_⟩
  refine zF ⟨?_⟩
  refine aF ay (zW @hwf) (hs) ?_
  rintro _ rfl
  refine zG ⟨?_⟩
  refine zF ⟨?_⟩
  exact aP [2,3,4,7] (i+1) (by omega) (by omega) rfl
 ·obtain rfl:i=6:=by omega
  refine zF ⟨?_⟩
  refine ae ?_
  rfl
end Go.Proofs.Ytlbdmpjnmfmnfaa
end
