import Derived.Test.YtlbdmpjnmfmnfaaFt1
import Derived.Test.YtlbdmpjnmfmnfaaFt4
import Derived.Test.YtlbdmpjnmfmnfaaFs8
import Derived.Test.YtlbdmpjnmfmnfaaFsQ
import Derived.Test.YtlbdmpjnmfmnfaaFsZ
import Derived.Test.YtlbdmpjnmfmnfaaFw4
section
set_option linter.unusedSimpArgs false
set_option linter.unusedVariables false
namespace Go.FS
def exA:List A:=[⟨0,0,1,0⟩,⟨0,0,-1,0⟩]
def exB:List A:=[⟨0,1,0,0⟩,⟨0,-1,0,0⟩]
def exF:List Bool:=[false,false,true]
def exC:List A:=[⟨0,0,2,1⟩,⟨0,0,-1,0⟩,⟨1,-1,2,2⟩,⟨1,0,-1,1⟩,⟨2,0,-1,2⟩]
theorem ex1:NQ [true] exA [0,0] 5=some [[],[1],[1,1]]:=by decide +kernel
theorem ex2:NQ exF exC [0,0] 7=some [[2,2]]:=by decide +kernel
theorem ex3 (n:Nat):At [true] exB [1] (List.replicate n 0) (0,0):=by
 have hg1:Good [true] exB [1] (0,1):=.fin (p:=0) ⟨by decide,rfl⟩
 have hm:Mv exB [1] (0,0) 0 (0,0):=.eps (a:=⟨0,-1,0,0⟩) (x:=(0,0)) (by simp [exB]) rfl rfl
 have hg:Good [true] exB [1] (0,0):=.mv (.sym (a:=⟨0,1,0,0⟩) (x:=(0,0)) (by simp [exB]) rfl (by decide) (by decide) (by decide) rfl) hg1
 induction n with
 | zero=>exact .nil hg
 | succ n ih=>rw [List.replicate_succ'];exact .sym ih hm (by decide) hg
theorem okB:vU exB:=fun a ha=>by simp only [exB,List.mem_cons,List.not_mem_nil,or_false] at ha;rcases ha with rfl|rfl<;>decide
theorem Vm:vU exA:=fun a ha=>by simp only [exA,List.mem_cons,List.not_mem_nil,or_false] at ha;rcases ha with rfl|rfl<;>decide
theorem okC:vU exC:=fun a ha=>by simp only [exC,List.mem_cons,List.not_mem_nil,or_false] at ha;rcases ha with rfl|rfl|rfl|rfl|rfl<;>decide
theorem ex4 (most:Int) (l:List (List Int)):¬ Lst [true] exB [1] most l:=by
 rintro ⟨n,h,_⟩
 have:=(kU okB (n:=n)).2 ⟨⟨_,ex3 n⟩,by simp⟩
 rw [h] at this;cases this
end Go.FS
namespace Go.Proofs.Ytlbdmpjnmfmnfaa
open Go.RowKit Go.HL Go.FS
theorem mr (l:List A):eu (recs aC l)=true:=by
 induction l with
 | nil=>rfl
 | cons a l ih=>simpa [recs,aC,eu,HV.noRd] using ih
theorem Ew:HT Try.prog 63 [] (fun r=>r=.agg (iF [true] exA)):=by
 refine HT.ofC rfl Z5 [0] rfl (Nat.le_of_ble_eq_true rfl) ?_
 unfold c63
 simp only [aY,Nat.reduceAdd]
 repeat (first|refine af ?_|refine ak ?_|refine ae ?_|refine dH ?_|refine cO ?_|refine bI dZ ?_|refine bY ?_)
 refine nO 0 [0] ⟨[(0,.pref 0 [] 0)],[(0,.optr [.sl 1 [.bool true],.sl 2 (recs aC exA)])],1⟩ rfl rfl ?_
 refine ay ?_
 exact ⟨_,_,rfl,rfl,rfl⟩
theorem G5 {fin:List Bool} {al:List A} {w:List Int} {most:Int} {r:HV} {k:Nat} {l:List (List Int)} (hk:vU al) (ho:xn fin al w most) (h:NQ fin al w k=some l) (hm:(l.length:Int)<=most) (hr:PS fin al w most r):r=.tup [.osl 1 l.length (wds l),.int .i64 0]:=by
 unfold PS at hr
 rw [if_pos ho] at hr
 have h1:=GI h hm
 rcases hr with ⟨l',h2,rfl⟩|⟨h2,_⟩
 ·rw [h2.uniq hk h1]
 ·exact absurd h1 (h2 l)
theorem Gq {fin:List Bool} {al:List A} {w:List Int} {most:Int} {r:HV} (ho:xn fin al w most) (h:∀l,¬ Lst fin al w most l) (hr:PS fin al w most r):r=.tup [.osl 1 0 [],.int .i64 4]:=by
 unfold PS at hr
 rw [if_pos ho] at hr
 rcases hr with ⟨l',h2,_⟩|⟨_,h2⟩
 ·exact absurd h2 (h l')
 ·exact h2
def ZC:List Bool:=[false,false,true]
def ZG:List A:=[⟨0,1,2,1⟩,⟨1,-1,2,2⟩]
theorem ex7:rF [1] [2,2]=(ZC,ZG):=by decide +kernel
theorem ex5:oq [true] ZC exA ZG=((exF,exC),0):=by decide +kernel
theorem ex6:Ll [true] exA=([true],exB):=by decide +kernel
theorem P8 {w:List Int} {most:Int} {fin:List Bool} {al:List A} (h:okF fin al=true) (h1:1<=most) (h2:most<=64) (h3:w.length<=1024):xn fin al w most:=⟨h,h1,h2,h3⟩
set_option maxHeartbeats 8000000 in
theorem EH:HT Try.prog 20 [] (fun r=>r=.bool true):=by
 refine HT.of rfl aau (Nat.le_of_ble_eq_true rfl) ?_
 unfold c20
 have hiv:=IG [true] exA (by decide) (by decide)
 have hwd:=yc [1] [2,2] (by decide) (by decide)
 have hcm:=sU [true] ZC exA ZG (by decide +kernel) (by decide) (by decide +kernel) (by decide +kernel)
 rw [ex5] at hcm
 rw [ex7] at hwd
 rw [ex6] at hiv
 have hex:=Ew
 have hap:=fun (fin:List Bool) (al:List A) (w:List Int) (most:Int)=>NJ fin al w most
 have k1:=fun r=>G5 (r:=r) (most:=3) Vm (P8 (by decide +kernel) (by decide) (by decide) (by decide)) ex1 (by decide)
 have k2:=fun r=>Gq (r:=r) (most:=2) (P8 (by decide +kernel) (by decide) (by decide) (by decide)) (UR Vm (GI ex1 (most:=3) (by decide)) (by decide))
 have k3:=fun r=>Gq (r:=r) (most:=64) (P8 (by decide +kernel) (by decide) (by decide) (by decide)) (ex4 64)
 have k4:=fun r=>G5 (r:=r) (most:=9) okC (P8 (by decide +kernel) (by decide) (by decide) (by decide)) ex2 (by decide)
 have h1:=(hap [true] exA [0,0] 3 (by decide) (by decide) (by decide)).mono k1
 have h2:=(hap [true] exA [0,0] 2 (by decide) (by decide) (by decide)).mono k2
 have h3:=(hap [true] exB [1] 64 (by decide) (by decide) (by decide)).mono k3
 have h4:=(hap exF exC [0,0] 9 (by decide) (by decide) (by decide)).mono k4
 simp only [aY,Nat.reduceAdd]
 have w1:=uw [[],[1],[1,1]] [[],[1],[1,1]] (by decide) (by decide) (by decide) (by decide)
 have w2:=uw [[2,2]] [[2,2]] (by decide) (by decide) (by decide) (by decide)
 repeat (first|refine ah ?_|refine af ?_|refine ak ?_|refine ae ?_)
 refine bT bH dw (hex) ?_
 rintro _ rfl
 simp only [iF,jJ] at h1 h2 h3 h4 hiv hcm ⊢
 refine ⟨bJ,_,_,_,_,_,gY,(by decide),bF,?_⟩
 repeat (first|refine af ?_|refine dH ?_|refine bI dZ ?_)
 refine bU 32 [0,1] ⟨[(0,.bool false),(1,.ptr [.sl 1 (HL.bools [true]),.sl exA.length (recs aC exA)] 0)],[],0⟩ rfl ?_
 refine ak ?_
 refine o6 2 (by rfl) ?_
 simp only [List.take_succ_cons,List.take_zero,List.drop_succ_cons,List.drop_zero]
 repeat (first|refine af ?_|refine bG ?_|refine cO ?_)
 refine bU 16 [0,1,15,16] ⟨[(0,.bool false),(1,.ptr [.sl 1 (HL.bools [true]),.sl exA.length (recs aC exA)] 0),(15,.agg [.sl 1 (HL.bools [true]),.sl exA.length (recs aC exA)]),(16,.sl 2 [.int .i64 0,.int .i64 0])],[],0⟩ rfl ?_
 refine ae ?_
 refine bT bH dw (h1) ?_
 rintro _ rfl
 refine ⟨bJ,_,_,_,_,_,gY,(by decide),bF,?_⟩
 repeat (first|refine ah ?_|refine af ?_|refine jA (by rfl) aQ aJ ?_)
 refine dR [0,1,2,3] ⟨[(0,.bool false),(1,.ptr [.sl 1 (HL.bools [true]),.sl exA.length (recs aC exA)] 0),(2,.ref 0 [] 1 0 3),(3,.int .i64 0)],[(0,.osl 1 3 (wds [[],[1],[1,1]]))],1⟩ rfl ?_
 refine ak ?_
 refine o6 2 (by rfl) ?_
 simp only [List.take_succ_cons,List.take_zero,List.drop_succ_cons,List.drop_zero]
 repeat (first|refine af ?_|refine bG ?_|refine cO ?_)
 refine bU 17 [0,1,2,3,21,22] ⟨[(0,.bool false),(1,.ptr [.sl 1 (HL.bools [true]),.sl exA.length (recs aC exA)] 0),(2,.ref 0 [] 1 0 3),(3,.int .i64 0),(21,.agg [.sl 1 (HL.bools [true]),.sl exA.length (recs aC exA)]),(22,.sl 2 [.int .i64 0,.int .i64 0])],[(0,.osl 1 3 (wds [[],[1],[1,1]]))],1⟩ rfl ?_
 refine ae ?_
 refine bT bH dw (h2) ?_
 rintro _ rfl
 refine ⟨bJ,_,_,_,_,_,gY,(by decide),bF,?_⟩
 repeat (first|refine ah ?_|refine af ?_|refine jA (by rfl) aQ aJ ?_)
 refine dR [0,1,2,3,5] ⟨[(0,.bool false),(1,.ptr [.sl 1 (HL.bools [true]),.sl exA.length (recs aC exA)] 0),(2,.ref 0 [] 1 0 3),(3,.int .i64 0),(5,.int .i64 4)],[(0,.osl 1 3 (wds [[],[1],[1,1]]))],1⟩ rfl ?_
 refine ak ?_
 refine o6 3 (by rfl) ?_
 simp only [List.take_succ_cons,List.take_zero,List.drop_succ_cons,List.drop_zero]
 repeat (first|refine bG ?_)
 refine bT bH dw (hiv) ?_
 rintro _ rfl
 refine ⟨bJ,_,_,_,_,_,gY,(by decide),bF,?_⟩
 repeat (first|refine af ?_|refine cO ?_)
 refine bU 33 [0,1,2,3,5,28,29] ⟨[(0,.bool false),(1,.ptr [.sl 1 (HL.bools [true]),.sl exA.length (recs aC exA)] 0),(2,.ref 0 [] 1 0 3),(3,.int .i64 0),(5,.int .i64 4),(28,.agg [.sl [true].length (HL.bools [true]),.sl exB.length (recs aC exB)]),(29,.sl 1 [.int .i64 1])],[(0,.osl 1 3 (wds [[],[1],[1,1]]))],1⟩ rfl ?_
 refine ae ?_
 refine bT bH dw (h3) ?_
 rintro _ rfl
 refine ⟨bJ,_,_,_,_,_,gY,(by decide),bF,?_⟩
 repeat (first|refine ah ?_|refine af ?_|refine jA (by rfl) aQ aJ ?_)
 refine dR [0,1,2,3,5,7] ⟨[(0,.bool false),(1,.ptr [.sl 1 (HL.bools [true]),.sl exA.length (recs aC exA)] 0),(2,.ref 0 [] 1 0 3),(3,.int .i64 0),(5,.int .i64 4),(7,.int .i64 4)],[(0,.osl 1 3 (wds [[],[1],[1,1]]))],1⟩ rfl ?_
 refine ak ?_
 refine JS [1] [] bC bC (fun f _ r=>if f=32 then r=.agg (xU ZC ZG) else r=.tup [.agg (xU exF exC),.int .i64 0]) (by simp [aA,HV.deep,bg,qx,kN]) (by simp) ?_
 repeat (first|refine bG ?_|refine cO ?_)
 refine jb bH dw hwd ⟨_,rfl,rfl⟩ ?_
 rintro _ rfl -
 simp only [xU]
 refine ⟨(by simp only [aX,mr,HV.refFree,eu,HV.noRd,HL.ints_noRd,HL.bools_noRd,Bool.or_true,Bool.true_or,Bool.or_false,Bool.false_or,Bool.and_true,Bool.true_and,Bool.and_self,List.isEmpty_nil,beq_self_eq_true,List.cons_append,List.nil_append]),_,_,_,_,_,gY,(by decide),bF,?_⟩
 skip
 refine jb bH dw hcm ⟨_,rfl,rfl⟩ ?_
 rintro _ rfl -
 refine ⟨(by simp only [aX,mr,HV.refFree,eu,HV.noRd,HL.ints_noRd,HL.bools_noRd,Bool.or_true,Bool.true_or,Bool.or_false,Bool.false_or,Bool.and_true,Bool.true_and,Bool.and_self,List.isEmpty_nil,beq_self_eq_true,List.cons_append,List.nil_append]),_,_,_,_,_,gY,(by decide),bF,?_⟩
 repeat (first|refine ah ?_|refine af ?_|refine jA (by rfl) aQ aJ ?_|refine dH ?_|refine bI dZ ?_)
 refine bU 129 [0,2,3,5,7,8,9] ⟨[(0,.bool false),(2,.ref 0 [] 1 0 3),(3,.int .i64 0),(5,.int .i64 4),(7,.int .i64 4),(8,.ptr [.sl exF.length (HL.bools exF),.sl exC.length (recs aC exC)] 0),(9,.int .i64 0)],[(0,.osl 1 3 (wds [[],[1],[1,1]]))],1⟩ rfl ?_
 refine ak ?_
 refine o6 2 (by rfl) ?_
 simp only [List.take_succ_cons,List.take_zero,List.drop_succ_cons,List.drop_zero]
 repeat (first|refine af ?_|refine bG ?_|refine cO ?_)
 refine bU 17 [0,2,3,5,7,8,9,42,43] ⟨[(0,.bool false),(2,.ref 0 [] 1 0 3),(3,.int .i64 0),(5,.int .i64 4),(7,.int .i64 4),(8,.ptr [.sl exF.length (HL.bools exF),.sl exC.length (recs aC exC)] 0),(9,.int .i64 0),(42,.agg [.sl exF.length (HL.bools exF),.sl exC.length (recs aC exC)]),(43,.sl 2 [.int .i64 0,.int .i64 0])],[(0,.osl 1 3 (wds [[],[1],[1,1]]))],1⟩ rfl ?_
 refine ae ?_
 refine bT bH dw (h4) ?_
 rintro _ rfl
 refine ⟨bJ,_,_,_,_,_,gY,(by decide),bF,?_⟩
 repeat (first|refine ah ?_|refine af ?_|refine jA (by rfl) aQ aJ ?_)
 refine dR [0,2,3,5,7,9,10,11] ⟨[(0,.bool false),(2,.ref 0 [] 1 0 3),(3,.int .i64 0),(5,.int .i64 4),(7,.int .i64 4),(9,.int .i64 0),(10,.ref 1 [] 1 0 1),(11,.int .i64 0)],[(0,.osl 1 3 (wds [[],[1],[1,1]])),(1,.osl 1 1 (wds [[2,2]]))],2⟩ rfl ?_
 repeat (first|refine ah ?_|refine aT ?_|refine af ?_|refine dV ?_|refine aU ?_|refine ak ?_|refine ae ?_|refine cO ?_|refine tN dZ bH aO jh (by simp) (by rfl) (by rfl) (by rfl) ?_)
 refine bT bH dw (w1) ?_
 rintro _ rfl
 refine ⟨bJ,_,_,_,_,_,gY,(by decide),bF,?_⟩
 repeat (first|refine ah ?_|refine aT ?_|refine aU ?_|refine cO ?_|refine tN dZ bH aO jh (by simp) (by rfl) (by rfl) (by rfl) ?_)
 refine bT bH dw (w2) ?_
 rintro _ rfl
 refine ⟨bJ,_,_,_,_,_,gY,(by decide),bF,?_⟩
 repeat (first|refine ah ?_|refine af ?_|refine aU ?_)
 refine ay ?_
 rfl
end Go.Proofs.Ytlbdmpjnmfmnfaa
end
section
set_option linter.unusedSimpArgs false
set_option linter.unusedVariables false
namespace Go.Proofs.Ytlbdmpjnmfmnfaa
set_option linter.unusedSimpArgs false
set_option linter.unnecessarySimpa false
open Go.RowKit Go.HL Go.FS
theorem JP (u:List Int) (hu:u.length<=4611686018427387904):HT Try.prog 32 [.sl u.length (HL.ints u),.nils] (fun r=>r=.agg (xU (rF u []).1 (rF u []).2)) :=
 HT.arg (fun F hp rvs o=>BB o) (yc u [] hu (by simp))
theorem Ko (u:List Int) (hu:u.length<=4611686018427387904):HT Try.prog 32 [.nils,.sl u.length (HL.ints u)] (fun r=>r=.agg (xU (rF [] u).1 (rF [] u).2)) :=
 HT.arg (fun F hp rvs o=>BB o) (yc [] u (by simp) hu)
end Go.Proofs.Ytlbdmpjnmfmnfaa
end
section
set_option linter.unusedSimpArgs false
set_option linter.unusedVariables false
namespace Go.Proofs.Ytlbdmpjnmfmnfaa
open Go.RowKit Go.HL Go.FS
end Go.Proofs.Ytlbdmpjnmfmnfaa
end
