import Derived.Test.YtlbdmpjnmfmnfaaFt1
import Derived.Test.YtlbdmpjnmfmnfaaFt4
import Derived.Test.YtlbdmpjnmfmnfaaFs8
import Derived.Test.YtlbdmpjnmfmnfaaFsQ
import Derived.Test.YtlbdmpjnmfmnfaaFsM
set_option linter.unusedSimpArgs false
set_option linter.unusedVariables false
namespace Go.FS
def exA:List A:=[⟨0,0,1,0⟩,⟨0,0,-1,0⟩]
def exB:List A:=[⟨0,1,0,0⟩,⟨0,-1,0,0⟩]
def exF:List Bool:=[false,false,true]
def exC:List A:=[⟨0,0,2,1⟩,⟨0,0,-1,0⟩,⟨1,-1,2,2⟩,⟨1,0,-1,1⟩,⟨2,0,-1,2⟩]
theorem Zj:JL [true] exA [0,0] 5=some [[],[1],[1,1]]:=by decide +kernel
theorem ZF:JL exF exC [0,0] 7=some [[2,2]]:=by decide +kernel
theorem ZE (n:Nat):At [true] exB [1] (List.replicate n 0) (0,0):=by
 have hg1:Good [true] exB [1] (0,1):=.fin (p:=0) ⟨by decide,rfl⟩
 have hm:Mv exB [1] (0,0) 0 (0,0):=.eps (a:=⟨0,-1,0,0⟩) (x:=(0,0)) (by simp [exB]) rfl rfl
 have hg:Good [true] exB [1] (0,0):=.mv (.sym (a:=⟨0,1,0,0⟩) (x:=(0,0)) (by simp [exB]) rfl (by decide) (by decide) (by decide) rfl) hg1
 induction n with
 | zero=>exact .nil hg
 | succ n ih=>rw [List.replicate_succ'];exact .sym ih hm (by decide) hg
theorem okB:qH exB:=fun a ha=>by simp only [exB,List.mem_cons,List.not_mem_nil,or_false] at ha;rcases ha with rfl|rfl<;>decide
theorem WY:qH exA:=fun a ha=>by simp only [exA,List.mem_cons,List.not_mem_nil,or_false] at ha;rcases ha with rfl|rfl<;>decide
theorem ZH:qH exC:=fun a ha=>by simp only [exC,List.mem_cons,List.not_mem_nil,or_false] at ha;rcases ha with rfl|rfl|rfl|rfl|rfl<;>decide
theorem ZM (most:Int) (l:List (List Int)):¬ Lst [true] exB [1] most l:=by
 rintro ⟨n,h,_⟩
 have:=(ig okB (n:=n)).2 ⟨⟨_,ZE n⟩,by simp⟩
 rw [h] at this;cases this
end Go.FS
namespace Go.Proofs.Ytlbdmpjnmfmnfaa
open Go.RowKit Go.HL Go.FS
theorem yu (l:List A):eu (recs aC l)=true:=by
 induction l with
 | nil=>rfl
 | cons a l ih=>simpa [recs,aC,eu,HV.noRd] using ih
theorem Ef:HT Try.prog 63 [] (fun r=>r=.agg (gX [true] exA)):=by
 refine HT.ofC rfl Yp [0] rfl (Nat.le_of_ble_eq_true rfl) ?_
 unfold Zk
 simp only [aW,Nat.reduceAdd]
 repeat (first|refine af ?_|refine ah ?_|refine ae ?_|refine dV ?_|refine bQ ?_|refine bY dZ ?_|refine di ?_)
 refine uG 0 [0] ⟨[(0,.pref 0 [] 0)],[(0,.optr [.sl 1 [.bool true],.sl 2 (recs aC exA)])],1⟩ rfl rfl ?_
 refine ax ?_
 exact ⟨_,_,rfl,rfl,rfl⟩
theorem Fp {fin:List Bool} {al:List A} {w:List Int} {most:Int} {r:HV} {k:Nat} {l:List (List Int)} (hk:qH al) (ho:qR fin al w most) (h:JL fin al w k=some l) (hm:(l.length:Int)<=most) (hr:Ku fin al w most r):r=.tup [.osl 1 l.length (wds l),.int .i64 0]:=by
 unfold Ku at hr
 rw [if_pos ho] at hr
 have h1:=FW h hm
 rcases hr with ⟨l',h2,rfl⟩|⟨h2,_⟩
 ·rw [h2.uniq hk h1]
 ·exact absurd h1 (h2 l)
theorem EQ {fin:List Bool} {al:List A} {w:List Int} {most:Int} {r:HV} (ho:qR fin al w most) (h:∀l,¬ Lst fin al w most l) (hr:Ku fin al w most r):r=.tup [.osl 1 0 [],.int .i64 4]:=by
 unfold Ku at hr
 rw [if_pos ho] at hr
 rcases hr with ⟨l',h2,_⟩|⟨_,h2⟩
 ·exact absurd h2 (h l')
 ·exact h2
def Yh:List Bool:=[false,false,true]
def Yg:List A:=[⟨0,1,2,1⟩,⟨1,-1,2,2⟩]
theorem ZI:IU [1] [2,2]=(Yh,Yg):=by decide +kernel
theorem ZN:qW [true] Yh exA Yg=((exF,exC),0):=by decide +kernel
theorem ZL:LM [true] exA=([true],exB):=by decide +kernel
theorem Ot {w:List Int} {most:Int} {fin:List Bool} {al:List A} (h:okF fin al=true) (h1:1<=most) (h2:most<=64) (h3:w.length<=1024):qR fin al w most:=⟨h,h1,h2,h3⟩
set_option maxHeartbeats 8000000 in
theorem Dz:HT Try.prog 20 [] (fun r=>r=.bool true):=by
 refine HT.of rfl Y1 (Nat.le_of_ble_eq_true rfl) ?_
 unfold c20
 have hiv:=H7 [true] exA (by decide) (by decide)
 have hwd:=KZ [1] [2,2] (by decide) (by decide)
 have hcm:=vM [true] Yh exA Yg (by decide +kernel) (by decide) (by decide +kernel) (by decide +kernel)
 rw [ZN] at hcm
 rw [ZI] at hwd
 rw [ZL] at hiv
 have hex:=Ef
 have hap:=fun (fin:List Bool) (al:List A) (w:List Int) (most:Int)=>Am fin al w most
 have k1:=fun r=>Fp (r:=r) (most:=3) WY (Ot (by decide +kernel) (by decide) (by decide) (by decide)) Zj (by decide)
 have k2:=fun r=>EQ (r:=r) (most:=2) (Ot (by decide +kernel) (by decide) (by decide) (by decide)) (Tc WY (FW Zj (most:=3) (by decide)) (by decide))
 have k3:=fun r=>EQ (r:=r) (most:=64) (Ot (by decide +kernel) (by decide) (by decide) (by decide)) (ZM 64)
 have k4:=fun r=>Fp (r:=r) (most:=9) ZH (Ot (by decide +kernel) (by decide) (by decide) (by decide)) ZF (by decide)
 have h1:=(hap [true] exA [0,0] 3 (by decide) (by decide) (by decide)).mono k1
 have h2:=(hap [true] exA [0,0] 2 (by decide) (by decide) (by decide)).mono k2
 have h3:=(hap [true] exB [1] 64 (by decide) (by decide) (by decide)).mono k3
 have h4:=(hap exF exC [0,0] 9 (by decide) (by decide) (by decide)).mono k4
 simp only [aW,Nat.reduceAdd]
 have w1:=sU [[],[1],[1,1]] [[],[1],[1,1]] (by decide) (by decide) (by decide) (by decide)
 have w2:=sU [[2,2]] [[2,2]] (by decide) (by decide) (by decide) (by decide)
 repeat (first|refine ag ?_|refine af ?_|refine ah ?_|refine ae ?_)
 refine bZ bJ cZ (hex) ?_
 rintro _ rfl
 simp only [gX,ji] at h1 h2 h3 h4 hiv hcm ⊢
 refine ⟨bP,_,_,_,_,_,gV,(by decide),bH,?_⟩
 repeat (first|refine af ?_|refine dV ?_|refine bY dZ ?_)
 refine bM 32 [0,1] ⟨[(0,.bool false),(1,.ptr [.sl 1 (HL.bools [true]),.sl exA.length (recs aC exA)] 0)],[],0⟩ rfl ?_
 refine ah ?_
 refine nS 2 (by rfl) ?_
 simp only [List.take_succ_cons,List.take_zero,List.drop_succ_cons,List.drop_zero]
 repeat (first|refine af ?_|refine bI ?_|refine bQ ?_)
 refine bM 16 [0,1,15,16] ⟨[(0,.bool false),(1,.ptr [.sl 1 (HL.bools [true]),.sl exA.length (recs aC exA)] 0),(15,.agg [.sl 1 (HL.bools [true]),.sl exA.length (recs aC exA)]),(16,.sl 2 [.int .i64 0,.int .i64 0])],[],0⟩ rfl ?_
 refine ae ?_
 refine bZ bJ cZ (h1) ?_
 rintro _ rfl
 refine ⟨bP,_,_,_,_,_,gV,(by decide),bH,?_⟩
 repeat (first|refine ag ?_|refine af ?_|refine iU (by rfl) aS aJ ?_)
 refine gp [0,1,2,3] ⟨[(0,.bool false),(1,.ptr [.sl 1 (HL.bools [true]),.sl exA.length (recs aC exA)] 0),(2,.ref 0 [] 1 0 3),(3,.int .i64 0)],[(0,.osl 1 3 (wds [[],[1],[1,1]]))],1⟩ rfl ?_
 refine ah ?_
 refine nS 2 (by rfl) ?_
 simp only [List.take_succ_cons,List.take_zero,List.drop_succ_cons,List.drop_zero]
 repeat (first|refine af ?_|refine bI ?_|refine bQ ?_)
 refine bM 17 [0,1,2,3,21,22] ⟨[(0,.bool false),(1,.ptr [.sl 1 (HL.bools [true]),.sl exA.length (recs aC exA)] 0),(2,.ref 0 [] 1 0 3),(3,.int .i64 0),(21,.agg [.sl 1 (HL.bools [true]),.sl exA.length (recs aC exA)]),(22,.sl 2 [.int .i64 0,.int .i64 0])],[(0,.osl 1 3 (wds [[],[1],[1,1]]))],1⟩ rfl ?_
 refine ae ?_
 refine bZ bJ cZ (h2) ?_
 rintro _ rfl
 refine ⟨bP,_,_,_,_,_,gV,(by decide),bH,?_⟩
 repeat (first|refine ag ?_|refine af ?_|refine iU (by rfl) aS aJ ?_)
 refine gp [0,1,2,3,5] ⟨[(0,.bool false),(1,.ptr [.sl 1 (HL.bools [true]),.sl exA.length (recs aC exA)] 0),(2,.ref 0 [] 1 0 3),(3,.int .i64 0),(5,.int .i64 4)],[(0,.osl 1 3 (wds [[],[1],[1,1]]))],1⟩ rfl ?_
 refine ah ?_
 refine nS 3 (by rfl) ?_
 simp only [List.take_succ_cons,List.take_zero,List.drop_succ_cons,List.drop_zero]
 repeat (first|refine bI ?_)
 refine bZ bJ cZ (hiv) ?_
 rintro _ rfl
 refine ⟨bP,_,_,_,_,_,gV,(by decide),bH,?_⟩
 repeat (first|refine af ?_|refine bQ ?_)
 refine bM 33 [0,1,2,3,5,28,29] ⟨[(0,.bool false),(1,.ptr [.sl 1 (HL.bools [true]),.sl exA.length (recs aC exA)] 0),(2,.ref 0 [] 1 0 3),(3,.int .i64 0),(5,.int .i64 4),(28,.agg [.sl [true].length (HL.bools [true]),.sl exB.length (recs aC exB)]),(29,.sl 1 [.int .i64 1])],[(0,.osl 1 3 (wds [[],[1],[1,1]]))],1⟩ rfl ?_
 refine ae ?_
 refine bZ bJ cZ (h3) ?_
 rintro _ rfl
 refine ⟨bP,_,_,_,_,_,gV,(by decide),bH,?_⟩
 repeat (first|refine ag ?_|refine af ?_|refine iU (by rfl) aS aJ ?_)
 refine gp [0,1,2,3,5,7] ⟨[(0,.bool false),(1,.ptr [.sl 1 (HL.bools [true]),.sl exA.length (recs aC exA)] 0),(2,.ref 0 [] 1 0 3),(3,.int .i64 0),(5,.int .i64 4),(7,.int .i64 4)],[(0,.osl 1 3 (wds [[],[1],[1,1]]))],1⟩ rfl ?_
 refine ah ?_
 refine JI [1] [] bK bK (fun f _ r=>if f=32 then r=.agg (BF Yh Yg) else r=.tup [.agg (BF exF exC),.int .i64 0]) (by simp [aH,HV.deep,bn,uC,wZ]) (by simp) ?_
 repeat (first|refine bI ?_|refine bQ ?_)
 refine iy bJ cZ hwd ⟨_,rfl,rfl⟩ ?_
 rintro _ rfl -
 simp only [BF]
 refine ⟨(by simp only [bf,yu,HV.refFree,eu,HV.noRd,HL.ints_noRd,HL.bools_noRd,Bool.or_true,Bool.true_or,Bool.or_false,Bool.false_or,Bool.and_true,Bool.true_and,Bool.and_self,List.isEmpty_nil,beq_self_eq_true,List.cons_append,List.nil_append]),_,_,_,_,_,gV,(by decide),bH,?_⟩
 skip
 refine iy bJ cZ hcm ⟨_,rfl,rfl⟩ ?_
 rintro _ rfl -
 refine ⟨(by simp only [bf,yu,HV.refFree,eu,HV.noRd,HL.ints_noRd,HL.bools_noRd,Bool.or_true,Bool.true_or,Bool.or_false,Bool.false_or,Bool.and_true,Bool.true_and,Bool.and_self,List.isEmpty_nil,beq_self_eq_true,List.cons_append,List.nil_append]),_,_,_,_,_,gV,(by decide),bH,?_⟩
 repeat (first|refine ag ?_|refine af ?_|refine iU (by rfl) aS aJ ?_|refine dV ?_|refine bY dZ ?_)
 refine bM 129 [0,2,3,5,7,8,9] ⟨[(0,.bool false),(2,.ref 0 [] 1 0 3),(3,.int .i64 0),(5,.int .i64 4),(7,.int .i64 4),(8,.ptr [.sl exF.length (HL.bools exF),.sl exC.length (recs aC exC)] 0),(9,.int .i64 0)],[(0,.osl 1 3 (wds [[],[1],[1,1]]))],1⟩ rfl ?_
 refine ah ?_
 refine nS 2 (by rfl) ?_
 simp only [List.take_succ_cons,List.take_zero,List.drop_succ_cons,List.drop_zero]
 repeat (first|refine af ?_|refine bI ?_|refine bQ ?_)
 refine bM 17 [0,2,3,5,7,8,9,42,43] ⟨[(0,.bool false),(2,.ref 0 [] 1 0 3),(3,.int .i64 0),(5,.int .i64 4),(7,.int .i64 4),(8,.ptr [.sl exF.length (HL.bools exF),.sl exC.length (recs aC exC)] 0),(9,.int .i64 0),(42,.agg [.sl exF.length (HL.bools exF),.sl exC.length (recs aC exC)]),(43,.sl 2 [.int .i64 0,.int .i64 0])],[(0,.osl 1 3 (wds [[],[1],[1,1]]))],1⟩ rfl ?_
 refine ae ?_
 refine bZ bJ cZ (h4) ?_
 rintro _ rfl
 refine ⟨bP,_,_,_,_,_,gV,(by decide),bH,?_⟩
 repeat (first|refine ag ?_|refine af ?_|refine iU (by rfl) aS aJ ?_)
 refine gp [0,2,3,5,7,9,10,11] ⟨[(0,.bool false),(2,.ref 0 [] 1 0 3),(3,.int .i64 0),(5,.int .i64 4),(7,.int .i64 4),(9,.int .i64 0),(10,.ref 1 [] 1 0 1),(11,.int .i64 0)],[(0,.osl 1 3 (wds [[],[1],[1,1]])),(1,.osl 1 1 (wds [[2,2]]))],2⟩ rfl ?_
 repeat (first|refine ag ?_|refine aQ ?_|refine af ?_|refine dH ?_|refine aO ?_|refine ah ?_|refine ae ?_|refine bQ ?_|refine vJ dZ bJ aV jK (by simp) (by rfl) (by rfl) (by rfl) ?_)
 refine bZ bJ cZ (w1) ?_
 rintro _ rfl
 refine ⟨bP,_,_,_,_,_,gV,(by decide),bH,?_⟩
 repeat (first|refine ag ?_|refine aQ ?_|refine aO ?_|refine bQ ?_|refine vJ dZ bJ aV jK (by simp) (by rfl) (by rfl) (by rfl) ?_)
 refine bZ bJ cZ (w2) ?_
 rintro _ rfl
 refine ⟨bP,_,_,_,_,_,gV,(by decide),bH,?_⟩
 repeat (first|refine ag ?_|refine af ?_|refine aO ?_)
 refine ax ?_
 rfl
end Go.Proofs.Ytlbdmpjnmfmnfaa
