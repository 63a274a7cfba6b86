import Derived.Test.YtlbdmpjnmfmnfaaFt1
import Derived.Test.YtlbdmpjnmfmnfaaFt4
import Derived.Test.YtlbdmpjnmfmnfaaFs8
import Derived.Test.YtlbdmpjnmfmnfaaFsM
import Derived.Test.YtlbdmpjnmfmnfaaFs1
section
set_option linter.unusedSimpArgs false
set_option linter.unusedVariables false
namespace Go.FS
def exA:List A:=[⟨0,0,1,0⟩,⟨0,0,-1,0⟩]
def exB:List A:=[⟨0,1,0,0⟩,⟨0,-1,0,0⟩]
def exF:List Bool:=[false,false,true]
def exC:List A:=[⟨0,0,2,1⟩,⟨0,0,-1,0⟩,⟨1,-1,2,2⟩,⟨1,0,-1,1⟩,⟨2,0,-1,2⟩]
theorem ex1:MB [true] exA [0,0] 5=some [[],[1],[1,1]]:=by decide +kernel
theorem ex2:MB exF exC [0,0] 7=some [[2,2]]:=by decide +kernel
theorem ex3 (n:Nat):At [true] exB [1] (List.replicate n 0) (0,0):=by
 have hg1:Good [true] exB [1] (0,1):=.fin (p:=0) ⟨by decide,rfl⟩
 have hm:Mv exB [1] (0,0) 0 (0,0):=.eps (a:=⟨0,-1,0,0⟩) (x:=(0,0)) (by simp [exB]) rfl rfl
 have hg:Good [true] exB [1] (0,0):=.mv (.sym (a:=⟨0,1,0,0⟩) (x:=(0,0)) (by simp [exB]) rfl (by decide) (by decide) (by decide) rfl) hg1
 induction n with
 | zero=>exact .nil hg
 | succ n ih=>rw [List.replicate_succ'];exact .sym ih hm (by decide) hg
theorem okB:uz exB:=fun a ha=>by simp only [exB,List.mem_cons,List.not_mem_nil,or_false] at ha;rcases ha with rfl|rfl<;>decide
theorem Ze:uz exA:=fun a ha=>by simp only [exA,List.mem_cons,List.not_mem_nil,or_false] at ha;rcases ha with rfl|rfl<;>decide
theorem okC:uz exC:=fun a ha=>by simp only [exC,List.mem_cons,List.not_mem_nil,or_false] at ha;rcases ha with rfl|rfl|rfl|rfl|rfl<;>decide
theorem ex4 (most:Int) (l:List (List Int)):¬ Lst [true] exB [1] most l:=by
 rintro ⟨n,h,_⟩
 have:=(kT okB (n:=n)).2 ⟨⟨_,ex3 n⟩,by simp⟩
 rw [h] at this;cases this
end Go.FS
namespace Go.Proofs.Ytlbdmpjnmfmnfaa
open Go.RowKit Go.HL Go.FS
theorem zh (l:List A):fM (recs aC l)=true:=by
 induction l with
 | nil=>rfl
 | cons a l ih=>simpa [recs,aC,fM,HV.noRd] using ih
theorem ER:HT Try.prog 63 [] (fun r=>r=.agg (fK [true] exA)):=by
 refine HT.ofC rfl abh [0] rfl (Nat.le_of_ble_eq_true rfl) ?_
 unfold c63
 simp only [aX,Nat.reduceAdd]
 repeat (first|refine af ?_|refine au ?_|refine ae ?_|refine dw ?_|refine bP ?_|refine bU dN ?_|refine dB ?_)
 refine nC 0 [0] ⟨[(0,.pref 0 [] 0)],[(0,.optr [.sl 1 [.bool true],.sl 2 (recs aC exA)])],1⟩ rfl rfl ?_
 refine az ?_
 exact ⟨_,_,rfl,rfl,rfl⟩
theorem F7 {fin:List Bool} {al:List A} {w:List Int} {most:Int} {r:HV} {k:Nat} {l:List (List Int)} (hk:uz al) (ho:tH fin al w most) (h:MB fin al w k=some l) (hm:(l.length:Int)<=most) (hr:Gz fin al w most r):r=.tup [.osl 1 l.length (wds l),.int .i64 0]:=by
 unfold Gz at hr
 rw [if_pos ho] at hr
 have h1:=Fb h hm
 rcases hr with ⟨l',h2,rfl⟩|⟨h2,_⟩
 ·rw [h2.uniq hk h1]
 ·exact absurd h1 (h2 l)
theorem F6 {fin:List Bool} {al:List A} {w:List Int} {most:Int} {r:HV} (ho:tH fin al w most) (h:∀l,¬ Lst fin al w most l) (hr:Gz fin al w most r):r=.tup [.osl 1 0 [],.int .i64 4]:=by
 unfold Gz at hr
 rw [if_pos ho] at hr
 rcases hr with ⟨l',h2,_⟩|⟨_,h2⟩
 ·exact absurd h2 (h l')
 ·exact h2
def exV:List Bool:=[false,false,true]
def exW:List A:=[⟨0,1,2,1⟩,⟨1,-1,2,2⟩]
theorem ex7:MQ [1] [2,2]=(exV,exW):=by decide +kernel
theorem ex5:uu [true] exV exA exW=((exF,exC),0):=by decide +kernel
theorem ex6:KJ [true] exA=([true],exB):=by decide +kernel
theorem NC {w:List Int} {most:Int} {fin:List Bool} {al:List A} (h:okF fin al=true) (h1:1<=most) (h2:most<=64) (h3:w.length<=1024):tH fin al w most:=⟨h,h1,h2,h3⟩
set_option maxHeartbeats 8000000 in
theorem Es:HT Try.prog 20 [] (fun r=>r=.bool true):=by
 refine HT.of rfl acb (Nat.le_of_ble_eq_true rfl) ?_
 unfold c20
 have hiv:=GM [true] exA (by decide) (by decide)
 have hwd:=L6 [1] [2,2] (by decide) (by decide)
 have hcm:=Ea [true] exV exA exW (by decide +kernel) (by decide) (by decide +kernel) (by decide +kernel)
 rw [ex5] at hcm
 rw [ex7] at hwd
 rw [ex6] at hiv
 have hex:=ER
 have hap:=fun (fin:List Bool) (al:List A) (w:List Int) (most:Int)=>CE fin al w most
 have k1:=fun r=>F7 (r:=r) (most:=3) Ze (NC (by decide +kernel) (by decide) (by decide) (by decide)) ex1 (by decide)
 have k2:=fun r=>F6 (r:=r) (most:=2) (NC (by decide +kernel) (by decide) (by decide) (by decide)) (Vz Ze (Fb ex1 (most:=3) (by decide)) (by decide))
 have k3:=fun r=>F6 (r:=r) (most:=64) (NC (by decide +kernel) (by decide) (by decide) (by decide)) (ex4 64)
 have k4:=fun r=>F7 (r:=r) (most:=9) okC (NC (by decide +kernel) (by decide) (by decide) (by decide)) ex2 (by decide)
 have h1:=(hap [true] exA [0,0] 3 (by decide) (by decide) (by decide)).mono k1
 have h2:=(hap [true] exA [0,0] 2 (by decide) (by decide) (by decide)).mono k2
 have h3:=(hap [true] exB [1] 64 (by decide) (by decide) (by decide)).mono k3
 have h4:=(hap exF exC [0,0] 9 (by decide) (by decide) (by decide)).mono k4
 simp only [aX,Nat.reduceAdd]
 have w1:=lM [[],[1],[1,1]] [[],[1],[1,1]] (by decide) (by decide) (by decide) (by decide)
 have w2:=lM [[2,2]] [[2,2]] (by decide) (by decide) (by decide) (by decide)
 repeat (first|refine ah ?_|refine af ?_|refine au ?_|refine ae ?_)
 refine dF bW dm (hex) ?_
 rintro _ rfl
 simp only [fK,gX] at h1 h2 h3 h4 hiv hcm ⊢
 refine ⟨cO,_,_,_,_,_,gY,(by decide),bT,?_⟩
 repeat (first|refine af ?_|refine dw ?_|refine bU dN ?_)
 refine bF 32 [0,1] ⟨[(0,.bool false),(1,.ptr [.sl 1 (HL.bools [true]),.sl exA.length (recs aC exA)] 0)],[],0⟩ rfl ?_
 refine au ?_
 refine oP 2 (by rfl) ?_
 simp only [List.take_succ_cons,List.take_zero,List.drop_succ_cons,List.drop_zero]
 repeat (first|refine af ?_|refine bz ?_|refine bP ?_)
 refine bF 16 [0,1,15,16] ⟨[(0,.bool false),(1,.ptr [.sl 1 (HL.bools [true]),.sl exA.length (recs aC exA)] 0),(15,.agg [.sl 1 (HL.bools [true]),.sl exA.length (recs aC exA)]),(16,.sl 2 [.int .i64 0,.int .i64 0])],[],0⟩ rfl ?_
 refine ae ?_
 refine dF bW dm (h1) ?_
 rintro _ rfl
 refine ⟨cO,_,_,_,_,_,gY,(by decide),bT,?_⟩
 repeat (first|refine ah ?_|refine af ?_|refine dZ ?_)
 refine iO [0,1,2,3] ⟨[(0,.bool false),(1,.ptr [.sl 1 (HL.bools [true]),.sl exA.length (recs aC exA)] 0),(2,.ref 0 [] 1 0 3),(3,.int .i64 0)],[(0,.osl 1 3 (wds [[],[1],[1,1]]))],1⟩ rfl ?_
 refine au ?_
 refine oP 2 (by rfl) ?_
 simp only [List.take_succ_cons,List.take_zero,List.drop_succ_cons,List.drop_zero]
 repeat (first|refine af ?_|refine bz ?_|refine bP ?_)
 refine bF 17 [0,1,2,3,21,22] ⟨[(0,.bool false),(1,.ptr [.sl 1 (HL.bools [true]),.sl exA.length (recs aC exA)] 0),(2,.ref 0 [] 1 0 3),(3,.int .i64 0),(21,.agg [.sl 1 (HL.bools [true]),.sl exA.length (recs aC exA)]),(22,.sl 2 [.int .i64 0,.int .i64 0])],[(0,.osl 1 3 (wds [[],[1],[1,1]]))],1⟩ rfl ?_
 refine ae ?_
 refine dF bW dm (h2) ?_
 rintro _ rfl
 refine ⟨cO,_,_,_,_,_,gY,(by decide),bT,?_⟩
 repeat (first|refine ah ?_|refine af ?_|refine dZ ?_)
 refine iO [0,1,2,3,5] ⟨[(0,.bool false),(1,.ptr [.sl 1 (HL.bools [true]),.sl exA.length (recs aC exA)] 0),(2,.ref 0 [] 1 0 3),(3,.int .i64 0),(5,.int .i64 4)],[(0,.osl 1 3 (wds [[],[1],[1,1]]))],1⟩ rfl ?_
 refine au ?_
 refine oP 3 (by rfl) ?_
 simp only [List.take_succ_cons,List.take_zero,List.drop_succ_cons,List.drop_zero]
 repeat (first|refine bz ?_)
 refine dF bW dm (hiv) ?_
 rintro _ rfl
 refine ⟨cO,_,_,_,_,_,gY,(by decide),bT,?_⟩
 repeat (first|refine af ?_|refine bP ?_)
 refine bF 33 [0,1,2,3,5,28,29] ⟨[(0,.bool false),(1,.ptr [.sl 1 (HL.bools [true]),.sl exA.length (recs aC exA)] 0),(2,.ref 0 [] 1 0 3),(3,.int .i64 0),(5,.int .i64 4),(28,.agg [.sl [true].length (HL.bools [true]),.sl exB.length (recs aC exB)]),(29,.sl 1 [.int .i64 1])],[(0,.osl 1 3 (wds [[],[1],[1,1]]))],1⟩ rfl ?_
 refine ae ?_
 refine dF bW dm (h3) ?_
 rintro _ rfl
 refine ⟨cO,_,_,_,_,_,gY,(by decide),bT,?_⟩
 repeat (first|refine ah ?_|refine af ?_|refine dZ ?_)
 refine iO [0,1,2,3,5,7] ⟨[(0,.bool false),(1,.ptr [.sl 1 (HL.bools [true]),.sl exA.length (recs aC exA)] 0),(2,.ref 0 [] 1 0 3),(3,.int .i64 0),(5,.int .i64 4),(7,.int .i64 4)],[(0,.osl 1 3 (wds [[],[1],[1,1]]))],1⟩ rfl ?_
 refine au ?_
 refine Lr [1] [] bu bu (fun f _ r=>if f=32 then r=.agg (DX exV exW) else r=.tup [.agg (DX exF exC),.int .i64 0]) (by simp [aV,HV.deep,bK,jD,jP]) (by simp) ?_
 repeat (first|refine bz ?_|refine bP ?_)
 refine fD bW dm hwd ⟨_,rfl,rfl⟩ ?_
 rintro _ rfl -
 simp only [DX]
 refine ⟨(by simp only [bG,zh,HV.refFree,fM,HV.noRd,HL.ints_noRd,HL.bools_noRd,Bool.or_true,Bool.true_or,Bool.or_false,Bool.false_or,Bool.and_true,Bool.true_and,Bool.and_self,List.isEmpty_nil,beq_self_eq_true,List.cons_append,List.nil_append]),_,_,_,_,_,gY,(by decide),bT,?_⟩
 skip
 refine fD bW dm hcm ⟨_,rfl,rfl⟩ ?_
 rintro _ rfl -
 refine ⟨(by simp only [bG,zh,HV.refFree,fM,HV.noRd,HL.ints_noRd,HL.bools_noRd,Bool.or_true,Bool.true_or,Bool.or_false,Bool.false_or,Bool.and_true,Bool.true_and,Bool.and_self,List.isEmpty_nil,beq_self_eq_true,List.cons_append,List.nil_append]),_,_,_,_,_,gY,(by decide),bT,?_⟩
 repeat (first|refine ah ?_|refine af ?_|refine dZ ?_|refine dw ?_|refine bU dN ?_)
 refine bF 129 [0,2,3,5,7,8,9] ⟨[(0,.bool false),(2,.ref 0 [] 1 0 3),(3,.int .i64 0),(5,.int .i64 4),(7,.int .i64 4),(8,.ptr [.sl exF.length (HL.bools exF),.sl exC.length (recs aC exC)] 0),(9,.int .i64 0)],[(0,.osl 1 3 (wds [[],[1],[1,1]]))],1⟩ rfl ?_
 refine au ?_
 refine oP 2 (by rfl) ?_
 simp only [List.take_succ_cons,List.take_zero,List.drop_succ_cons,List.drop_zero]
 repeat (first|refine af ?_|refine bz ?_|refine bP ?_)
 refine bF 17 [0,2,3,5,7,8,9,42,43] ⟨[(0,.bool false),(2,.ref 0 [] 1 0 3),(3,.int .i64 0),(5,.int .i64 4),(7,.int .i64 4),(8,.ptr [.sl exF.length (HL.bools exF),.sl exC.length (recs aC exC)] 0),(9,.int .i64 0),(42,.agg [.sl exF.length (HL.bools exF),.sl exC.length (recs aC exC)]),(43,.sl 2 [.int .i64 0,.int .i64 0])],[(0,.osl 1 3 (wds [[],[1],[1,1]]))],1⟩ rfl ?_
 refine ae ?_
 refine dF bW dm (h4) ?_
 rintro _ rfl
 refine ⟨cO,_,_,_,_,_,gY,(by decide),bT,?_⟩
 repeat (first|refine ah ?_|refine af ?_|refine dZ ?_)
 refine iO [0,2,3,5,7,9,10,11] ⟨[(0,.bool false),(2,.ref 0 [] 1 0 3),(3,.int .i64 0),(5,.int .i64 4),(7,.int .i64 4),(9,.int .i64 0),(10,.ref 1 [] 1 0 1),(11,.int .i64 0)],[(0,.osl 1 3 (wds [[],[1],[1,1]])),(1,.osl 1 1 (wds [[2,2]]))],2⟩ rfl ?_
 repeat (first|refine ah ?_|refine aO ?_|refine af ?_|refine bC ?_|refine aK ?_|refine au ?_|refine ae ?_|refine bP ?_|refine oN dN bW aI iW (by simp) (by rfl) (by rfl) (by rfl) ?_)
 trace_state
 refine dF bW dm (w1) ?_
 rintro _ rfl
 refine ⟨cO,_,_,_,_,_,gY,(by decide),bT,?_⟩
 repeat (first|refine ah ?_|refine aO ?_|refine aK ?_|refine bP ?_|refine oN dN bW aI iW (by simp) (by rfl) (by rfl) (by rfl) ?_)
 refine dF bW dm (w2) ?_
 rintro _ rfl
 refine ⟨cO,_,_,_,_,_,gY,(by decide),bT,?_⟩
 repeat (first|refine ah ?_|refine af ?_|refine aK ?_)
 refine az ?_
 rfl
end Go.Proofs.Ytlbdmpjnmfmnfaa
end
section
set_option linter.unusedSimpArgs false
set_option linter.unusedVariables false
namespace Go.Proofs.Ytlbdmpjnmfmnfaa
open Go.RowKit Go.HL Go.FS
theorem Jl (l:List Int) (m:Nat) (hl:l.length<=9223372036854775807) (hm:m<=1000) (hr:∀k,k<l.length -> -9223372036854775808<=l.getD k 0/\l.getD k 0<=9223372036854775807):HT Try.prog 14 [I l,.int .i64 m] (fun r=>∃u:List Int,r=.osl 1 u.length (HL.ints u)/\u.length<=m):=by
 refine HT.of rfl abz (Nat.le_of_ble_eq_true rfl) ?_
 unfold c14
 simp only [I,aX,Nat.reduceAdd]
 repeat (first|refine ah ?_|refine af ?_|refine au ?_|refine ae ?_|refine aA ?_|refine aZ ?_)
 refine bQ [0,1,5,6] (fun u:List Int=>u.length<=m/\u.length<=l.length)
  (fun u=>⟨[(0,.sl l.length (HL.ints l)),(1,.int .i64 m),(5,.ref 0 [] 1 0 u.length),(6,.int .i64 u.length)],[(0,.osl 1 u.length (HL.ints u))],1⟩)
  (fun u=>m - u.length) [] ⟨by simp,by simp⟩ rfl ?_
 rintro u ⟨h1,h2⟩
 by_cases c1:u.length<l.length
 ·by_cases c2:u.length<m
  ·have hh:=hr u.length c1
   have hsn:∀x:Int,(u++[x]).length=u.length+1:=by simp
   repeat (first|refine ah ?_|refine aO ?_|refine aJ ?_|refine dD ?_|refine af ?_|refine ay ?_|refine aK ?_|refine aB ?_|refine ak ?_|refine au ?_|refine ae ?_|refine aA ?_|refine aH ?_)
   refine dF bW dm (nP (l.getD u.length 0) 3 (by omega) (by omega) hh.1 hh.2) ?_
   rintro _ ⟨y,rfl,hy⟩
   refine ⟨cO,_,_,_,_,_,gY,(by decide),bT,?_⟩
   repeat (first|refine ah ?_|refine af ?_|refine bf ?_|refine ae ?_|refine dH ?_|refine bP ?_|refine gz ?_)
   exact bZ [0,1,5,6] (u++[(y:Int)]) ⟨by rw [hsn];omega,by rw [hsn];omega⟩ (by rw [hsn];omega) (by rw [hsn];rfl)
  ·repeat (first|refine ah ?_|refine aO ?_|refine af ?_|refine ay ?_|refine aK ?_|refine aB ?_|refine bD (by rfl) ?_|refine ax ?_|refine au ?_|refine ae ?_)
   refine az ?_
   exact ⟨u,rfl,h1⟩
 ·repeat (first|refine ah ?_|refine cu ?_|refine af ?_|refine ay ?_|refine aN ?_|refine aB ?_|refine bD (by rfl) ?_|refine ax ?_|refine au ?_|refine ae ?_)
  refine az ?_
  exact ⟨u,rfl,h1⟩
end Go.Proofs.Ytlbdmpjnmfmnfaa
end
