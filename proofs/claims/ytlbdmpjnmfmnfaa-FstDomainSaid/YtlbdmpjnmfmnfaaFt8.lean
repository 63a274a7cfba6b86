import Derived.Test.YtlbdmpjnmfmnfaaFt7
import Derived.Test.YtlbdmpjnmfmnfaaHlW
import Derived.Test.YtlbdmpjnmfmnfaaFt1
import Derived.Test.YtlbdmpjnmfmnfaaFs8
import Derived.Test.YtlbdmpjnmfmnfaaFt9
set_option linter.unusedSimpArgs false
set_option linter.unusedVariables false
set_option maxHeartbeats 8000000
section
namespace Go.Proofs.Ytlbdmpjnmfmnfaa
open Go.RowKit Go.HL Go.FS
theorem OY (fs ft:List Bool) (al bl:List A) (hfs:fs.length<=9223372036854775807) (hal:al.length<=9223372036854775807) (hft:ft.length<=9223372036854775807) (hbl:bl.length<=9223372036854775807):HT Try.prog 21 [.agg (dR fs al),.agg (dR ft bl)] (fun r=>r=.tup [.agg (Qr (DY fs ft al bl).1.1 (DY fs ft al bl).1.2),.int .i64 (DY fs ft al bl).2]):=by
 refine HT.ofC rfl aeo [4,5] rfl (bF rfl) ?_
 unfold c21
 have hv1:=wB fs al hfs hal
 have hv2:=wB ft bl hft hbl
 have hf1:=XM fs al
 have hf2:=XM ft bl
 simp only [ay,Nat.reduceAdd]
 simp only [dR,fU] at hv1 hv2 hf1 hf2 ⊢
 refine zF ⟨?_⟩
 refine aX aG bz (hv1) ?_
 rintro _ rfl
 by_cases ho1:okF fs al=true
 ·rw [ho1]
  refine zG ⟨?_⟩
  refine zF ⟨?_⟩
  refine aX aG bz (hv2) ?_
  rintro _ rfl
  by_cases ho2:okF ft bl=true
  ·rw [ho2]
   refine zG ⟨?_⟩
   refine zF ⟨?_⟩
   refine bJ aA aA (fun _ args r=>frD args r) ?_
   refine zF ⟨?_⟩
   refine fG aG bz (hf1 ho1) ⟨_,⟨fs,al,rfl,rfl⟩,by simp [HV.deep,Gl]⟩ ?_
   rintro _ hr1 -
   obtain rfl:=Xa hr1
   refine ⟨(by simp only [aO,HY,HV.refFree,dU,HV.noRd,HL.ints_noRd,HL.bools_noRd,wG,Bool.or_true,Bool.true_or,CU,vY,Bool.and_true,uj,Bool.and_self,LQ,beq_self_eq_true,List.cons_append,List.nil_append]),_,_,_,_,_,IB,(by decide),(by simp only [tV,Ae];try rfl),?_⟩
   refine zF ⟨?_⟩
   refine fG aG bz (hf2 ho2) ⟨_,⟨ft,bl,rfl,rfl⟩,by simp [HV.deep,Gl]⟩ ?_
   rintro _ hr2 -
   obtain rfl:=Xa hr2
   refine ⟨(by simp only [aO,HY,HV.refFree,dU,HV.noRd,HL.ints_noRd,HL.bools_noRd,wG,Bool.or_true,Bool.true_or,CU,vY,Bool.and_true,uj,Bool.and_self,LQ,beq_self_eq_true,List.cons_append,List.nil_append]),_,_,_,_,_,IB,(by decide),(by simp only [tV,Ae];try rfl),?_⟩
   clear hr1 hr2 hv1 hv2 hf1 hf2
   have hl1:=iw (·.f) fs.length al
   have hl2:=iw (·.f) ft.length bl
   refine fP @Xt ⟨?_⟩
   refine tY aG ?_
   refine zF ⟨?_⟩
   refine dZ 448 [1,4] [2,3,4,5,6,7,8,9,10,11,12] (⟨[(2,.pref 0 [] 0),(3,.pref 1 [] 0),(4,.pref 2 [] 0),(5,.int .i64 0),(6,.ref 3 [] 1 0 fs.length),(7,.ref 4 [] 1 0 ft.length),(8,.pref 5 [] 0),(9,.pref 6 [] 0),(10,.pref 7 [] 0),(11,.fn 65 [.pref 5 [] 0,.pref 6 [] 0,.pref 7 [] 0]),(12,.int .i64 0)],[(0,.optr [.sl fs.length (HL.bools fs),.sl al.length (recs aC al)]),(1,.optr [.sl ft.length (HL.bools ft),.sl bl.length (recs aC bl)]),(2,.optr [.nils,.nils]),(3,.osl 1 fs.length (dV (aT (·.f) fs.length al))),(4,.osl 1 ft.length (dV (aT (·.f) ft.length bl))),(5,lN [(0,0)]),(6,lV [(0,0)]),(7,kS [] [])],8⟩:St) rfl rfl ?_
   refine aP 0 [2,3,4,5,6,7,8,9,10,11,12] ⟨[(2,.ptr (stripL [.sl fs.length (HL.bools fs),.sl al.length (recs aC al)]) 0),(3,.pref 0 [] 0),(4,.pref 1 [] 0),(5,.int .i64 0),(6,.ref 2 [] 1 0 fs.length),(7,.ref 3 [] 1 0 ft.length),(8,.pref 4 [] 0),(9,.pref 5 [] 0),(10,.pref 6 [] 0),(11,.fn 65 [.pref 4 [] 0,.pref 5 [] 0,.pref 6 [] 0]),(12,.int .i64 0)],[(0,.optr [.sl ft.length (HL.bools ft),.sl bl.length (recs aC bl)]),(1,.optr [.nils,.nils]),(2,.osl 1 fs.length (dV (aT (·.f) fs.length al))),(3,.osl 1 ft.length (dV (aT (·.f) ft.length bl))),(4,lN [(0,0)]),(5,lV [(0,0)]),(6,kS [] [])],7⟩ rfl ?_
   rw [pM]
   refine aP 0 [2,3,4,5,6,7,8,9,10,11,12] ⟨[(2,.ptr [.sl fs.length (HL.bools fs),.sl al.length (recs aC al)] 0),(3,.ptr (stripL [.sl ft.length (HL.bools ft),.sl bl.length (recs aC bl)]) 0),(4,.pref 0 [] 0),(5,.int .i64 0),(6,.ref 1 [] 1 0 fs.length),(7,.ref 2 [] 1 0 ft.length),(8,.pref 3 [] 0),(9,.pref 4 [] 0),(10,.pref 5 [] 0),(11,.fn 65 [.pref 3 [] 0,.pref 4 [] 0,.pref 5 [] 0]),(12,.int .i64 0)],[(0,.optr [.nils,.nils]),(1,.osl 1 fs.length (dV (aT (·.f) fs.length al))),(2,.osl 1 ft.length (dV (aT (·.f) ft.length bl))),(3,lN [(0,0)]),(4,lV [(0,0)]),(5,kS [] [])],6⟩ rfl ?_
   rw [pM ft]
   have e1:stripL (win (dV (aT (·.f) fs.length al)) 0 (fs.length*1))=dH (aT (·.f) fs.length al):=by rw [dw _ (by rw [Ac,hl1,Nat.mul_one]),nO]
   have e2:stripL (win (dV (aT (·.f) ft.length bl)) 0 (ft.length*1))=dH (aT (·.f) ft.length bl):=by rw [dw _ (by rw [Ac,hl2,Nat.mul_one]),nO]
   refine aP 1 [2,3,4,5,6,7,8,9,10,11,12] ⟨[(2,.ptr [.sl fs.length (HL.bools fs),.sl al.length (recs aC al)] 0),(3,.ptr [.sl ft.length (HL.bools ft),.sl bl.length (recs aC bl)] 0),(4,.pref 0 [] 0),(5,.int .i64 0),(6,.sl fs.length (stripL (win (dV (aT (·.f) fs.length al)) 0 (fs.length*1)))),(7,.ref 1 [] 1 0 ft.length),(8,.pref 2 [] 0),(9,.pref 3 [] 0),(10,.pref 4 [] 0),(11,.fn 65 [.pref 2 [] 0,.pref 3 [] 0,.pref 4 [] 0]),(12,.int .i64 0)],[(0,.optr [.nils,.nils]),(1,.osl 1 ft.length (dV (aT (·.f) ft.length bl))),(2,lN [(0,0)]),(3,lV [(0,0)]),(4,kS [] [])],5⟩ rfl ?_
   rw [e1]
   refine aP 1 [2,3,4,5,6,7,8,9,10,11,12] ⟨[(2,.ptr [.sl fs.length (HL.bools fs),.sl al.length (recs aC al)] 0),(3,.ptr [.sl ft.length (HL.bools ft),.sl bl.length (recs aC bl)] 0),(4,.pref 0 [] 0),(5,.int .i64 0),(6,.sl fs.length (dH (aT (·.f) fs.length al))),(7,.sl ft.length (stripL (win (dV (aT (·.f) ft.length bl)) 0 (ft.length*1)))),(8,.pref 1 [] 0),(9,.pref 2 [] 0),(10,.pref 3 [] 0),(11,.fn 65 [.pref 1 [] 0,.pref 2 [] 0,.pref 3 [] 0]),(12,.int .i64 0)],[(0,.optr [.nils,.nils]),(1,lN [(0,0)]),(2,lV [(0,0)]),(3,kS [] [])],4⟩ rfl ?_
   rw [e2]
   clear e1 e2
   exact TU fs ft al bl ho1 ho2
  ·rw [show okF ft bl=false by simpa using ho2]
   have ht:DY fs ft al bl=(([],[]),1):=by unfold DY;rw [if_neg fun h=>ho2 h.2]
   refine zG ⟨?_⟩
   refine zF ⟨?_⟩
   refine dZ 32 [1,4] [4,5] (⟨[(4,.pref 0 [] 0),(5,.int .i64 1)],[(0,.optr [.osl 1 0 [],.osl 4 0 []])],1⟩:St) rfl rfl ?_
   refine ae ?_
   exact ⟨_,_,rfl,rfl,by rw [ht];rfl⟩
 ·rw [show okF fs al=false by simpa using ho1]
  have ht:DY fs ft al bl=(([],[]),1):=by unfold DY;rw [if_neg fun h=>ho1 h.1]
  refine zG ⟨?_⟩
  refine zF ⟨?_⟩
  refine dZ 32 [1,4] [4,5] (⟨[(4,.pref 0 [] 0),(5,.int .i64 1)],[(0,.optr [.osl 1 0 [],.osl 4 0 []])],1⟩:St) rfl rfl ?_
  refine ae ?_
  exact ⟨_,_,rfl,rfl,by rw [ht];rfl⟩
end Go.Proofs.Ytlbdmpjnmfmnfaa
end
section
namespace Go.FS
def exA:List A:=[⟨0,0,1,0⟩,⟨0,0,-1,0⟩]
def exB:List A:=[⟨0,1,0,0⟩,⟨0,-1,0,0⟩]
def exF:List Bool:=[false,false,true]
def exC:List A:=[⟨0,0,2,1⟩,⟨0,0,-1,0⟩,⟨1,-1,2,2⟩,⟨1,0,-1,1⟩,⟨2,0,-1,2⟩]
theorem ex1:V6 [true] exA [0,0] 5=some [[],[1],[1,1]]:=by decide +kernel
theorem ex2:V6 exF exC [0,0] 7=some [[2,2]]:=by decide +kernel
theorem ex3 (n:Nat):At [true] exB [1] (List.replicate n 0) (0,0):=by
 have hg1:Good [true] exB [1] (0,1):=.fin (p:=0) ⟨by decide,rfl⟩
 have hm:Mv exB [1] (0,0) 0 (0,0):=.eps (a:=⟨0,-1,0,0⟩) (x:=(0,0)) (by simp [exB]) rfl rfl
 have hg:Good [true] exB [1] (0,0):=.mv (.sym (a:=⟨0,1,0,0⟩) (x:=(0,0)) (by simp [exB]) rfl (by decide) (by decide) (by decide) rfl) hg1
 induction n with
 | zero=>exact .nil hg
 | succ n ih=>rw [List.replicate_succ'];exact .sym ih hm (by decide) hg
theorem okB:Eh exB:=fun a ha=>by simp only [exB,List.mem_cons,List.not_mem_nil,or_false] at ha;rcases ha with rfl|rfl<;>decide
theorem ac3:Eh exA:=fun a ha=>by simp only [exA,List.mem_cons,List.not_mem_nil,or_false] at ha;rcases ha with rfl|rfl<;>decide
theorem okC:Eh exC:=fun a ha=>by simp only [exC,List.mem_cons,List.not_mem_nil,or_false] at ha;rcases ha with rfl|rfl|rfl|rfl|rfl<;>decide
theorem ex4 (most:Int) (l:List (List Int)):¬ Lst [true] exB [1] most l:=by
 rintro ⟨n,h,_⟩
 have:=(oK okB (n:=n)).2 ⟨⟨_,ex3 n⟩,by simp⟩
 rw [h] at this;cases this
end Go.FS
namespace Go.Proofs.Ytlbdmpjnmfmnfaa
open Go.RowKit Go.HL Go.FS
theorem IQ (l:List A):dU (recs aC l)=true:=by
 induction l with
 | nil=>rfl
 | cons a l ih=>simpa [recs,aC,dU,HV.noRd] using ih
theorem QB:HT Try.prog 63 [] (fun r=>r=.agg (dR [true] exA)):=by
 refine HT.ofC rfl ae0 [0] rfl (bF rfl) ?_
 unfold c63
 simp only [ay,Nat.reduceAdd]
 refine zF ⟨?_⟩
 refine EY 0 [0] ⟨[(0,.pref 0 [] 0)],[(0,.optr [.sl 1 [.bool true],.sl 2 (recs aC exA)])],1⟩ rfl rfl ?_
 refine ae ?_
 exact ⟨_,_,rfl,rfl,rfl⟩
theorem Rw {fin:List Bool} {al:List A} {w:List Int} {most:Int} {r:HV} {k:Nat} {l:List (List Int)} (hk:Eh al) (ho:BO fin al w most) (h:V6 fin al w k=some l) (hm:(l.length:Int)<=most) (hr:Ws fin al w most r):r=.tup [.osl 1 l.length (wds l),.int .i64 0]:=by
 unfold Ws at hr
 rw [if_pos ho] at hr
 have h1:=Rh h hm
 rcases hr with ⟨l',h2,rfl⟩|⟨h2,_⟩
 ·rw [h2.uniq hk h1]
 ·exact absurd h1 (h2 l)
theorem QV {fin:List Bool} {al:List A} {w:List Int} {most:Int} {r:HV} (ho:BO fin al w most) (h:∀l,¬ Lst fin al w most l) (hr:Ws fin al w most r):r=.tup [.osl 1 0 [],.int .i64 4]:=by
 unfold Ws at hr
 rw [if_pos ho] at hr
 rcases hr with ⟨l',h2,_⟩|⟨_,h2⟩
 ·exact absurd h2 (h l')
 ·exact h2
def exV:List Bool:=[false,false,true]
def exW:List A:=[⟨0,1,2,1⟩,⟨1,-1,2,2⟩]
theorem ex7:VQ [1] [2,2]=(exV,exW):=by decide +kernel
theorem ex5:DY [true] exV exA exW=((exF,exC),0):=by decide +kernel
theorem ex6:Vb [true] exA=([true],exB):=by decide +kernel
theorem YY {w:List Int} {most:Int} {fin:List Bool} {al:List A} (h:okF fin al=true) (h1:1<=most) (h2:most<=64) (h3:w.length<=1024):BO fin al w most:=⟨h,h1,h2,h3⟩
theorem Px:HT Try.prog 20 [] (fun r=>r=.bool true):=by
 refine HT.of rfl aez (bF rfl) ?_
 unfold c20
 have hiv:=TL [true] exA (by decide) (by decide)
 have hwd:=X7 [1] [2,2] (by decide) (by decide)
 have hcm:=OY [true] exV exA exW (by decide +kernel) (by decide) (by decide +kernel) (by decide +kernel)
 rw [ex5] at hcm
 rw [ex7] at hwd
 rw [ex6] at hiv
 have hex:=QB
 have hap:=fun (fin:List Bool) (al:List A) (w:List Int) (most:Int)=>Oh fin al w most
 have k1:=fun r=>Rw (r:=r) (most:=3) ac3 (YY (by decide +kernel) (by decide) (by decide) (by decide)) ex1 (by decide)
 have k2:=fun r=>QV (r:=r) (most:=2) (YY (by decide +kernel) (by decide) (by decide) (by decide)) (abU ac3 (Rh ex1 (most:=3) (by decide)) (by decide))
 have k3:=fun r=>QV (r:=r) (most:=64) (YY (by decide +kernel) (by decide) (by decide) (by decide)) (ex4 64)
 have k4:=fun r=>Rw (r:=r) (most:=9) okC (YY (by decide +kernel) (by decide) (by decide) (by decide)) ex2 (by decide)
 have h1:=(hap [true] exA [0,0] 3 (by decide) (by decide) (by decide)).mono k1
 have h2:=(hap [true] exA [0,0] 2 (by decide) (by decide) (by decide)).mono k2
 have h3:=(hap [true] exB [1] 64 (by decide) (by decide) (by decide)).mono k3
 have h4:=(hap exF exC [0,0] 9 (by decide) (by decide) (by decide)).mono k4
 simp only [ay,Nat.reduceAdd]
 have w1:=BZ [[],[1],[1,1]] [[],[1],[1,1]] (by decide) (by decide) (by decide) (by decide)
 have w2:=BZ [[2,2]] [[2,2]] (by decide) (by decide) (by decide) (by decide)
 refine zF ⟨?_⟩
 refine aX aG bz (hex) ?_
 rintro _ rfl
 simp only [dR,fU] at h1 h2 h3 h4 hiv hcm ⊢
 refine zG ⟨?_⟩
 refine zQ ⟨?_⟩
 refine aP 32 [0,1] ⟨[(0,.bool false),(1,.ptr [.sl 1 (HL.bools [true]),.sl exA.length (recs aC exA)] 0)],[],0⟩ rfl ?_
 refine aU ?_
 refine xh 2 (by rfl) ?_
 simp only [List.take_succ_cons,List.take_zero,List.drop_succ_cons,List.drop_zero]
 refine zQ ⟨?_⟩
 refine aP 16 [0,1,15,16] ⟨[(0,.bool false),(1,.ptr [.sl 1 (HL.bools [true]),.sl exA.length (recs aC exA)] 0),(15,.agg [.sl 1 (HL.bools [true]),.sl exA.length (recs aC exA)]),(16,.sl 2 [.int .i64 0,.int .i64 0])],[],0⟩ rfl ?_
 refine bg ?_
 refine aX aG bz (h1) ?_
 rintro _ rfl
 refine zG ⟨?_⟩
 refine zQ ⟨?_⟩
 refine bV [0,1,2,3] ⟨[(0,.bool false),(1,.ptr [.sl 1 (HL.bools [true]),.sl exA.length (recs aC exA)] 0),(2,.ref 0 [] 1 0 3),(3,.int .i64 0)],[(0,.osl 1 3 (wds [[],[1],[1,1]]))],1⟩ rfl ?_
 refine aU ?_
 refine xh 2 (by rfl) ?_
 simp only [List.take_succ_cons,List.take_zero,List.drop_succ_cons,List.drop_zero]
 refine zQ ⟨?_⟩
 refine aP 17 [0,1,2,3,21,22] ⟨[(0,.bool false),(1,.ptr [.sl 1 (HL.bools [true]),.sl exA.length (recs aC exA)] 0),(2,.ref 0 [] 1 0 3),(3,.int .i64 0),(21,.agg [.sl 1 (HL.bools [true]),.sl exA.length (recs aC exA)]),(22,.sl 2 [.int .i64 0,.int .i64 0])],[(0,.osl 1 3 (wds [[],[1],[1,1]]))],1⟩ rfl ?_
 refine bg ?_
 refine aX aG bz (h2) ?_
 rintro _ rfl
 refine zG ⟨?_⟩
 refine zQ ⟨?_⟩
 refine bV [0,1,2,3,5] ⟨[(0,.bool false),(1,.ptr [.sl 1 (HL.bools [true]),.sl exA.length (recs aC exA)] 0),(2,.ref 0 [] 1 0 3),(3,.int .i64 0),(5,.int .i64 4)],[(0,.osl 1 3 (wds [[],[1],[1,1]]))],1⟩ rfl ?_
 refine aU ?_
 refine xh 3 (by rfl) ?_
 simp only [List.take_succ_cons,List.take_zero,List.drop_succ_cons,List.drop_zero]
 refine zQ ⟨?_⟩
 refine aX aG bz (hiv) ?_
 rintro _ rfl
 refine zG ⟨?_⟩
 refine zQ ⟨?_⟩
 refine aP 33 [0,1,2,3,5,28,29] ⟨[(0,.bool false),(1,.ptr [.sl 1 (HL.bools [true]),.sl exA.length (recs aC exA)] 0),(2,.ref 0 [] 1 0 3),(3,.int .i64 0),(5,.int .i64 4),(28,.agg [.sl [true].length (HL.bools [true]),.sl exB.length (recs aC exB)]),(29,.sl 1 [.int .i64 1])],[(0,.osl 1 3 (wds [[],[1],[1,1]]))],1⟩ rfl ?_
 refine bg ?_
 refine aX aG bz (h3) ?_
 rintro _ rfl
 refine zG ⟨?_⟩
 refine zQ ⟨?_⟩
 refine bV [0,1,2,3,5,7] ⟨[(0,.bool false),(1,.ptr [.sl 1 (HL.bools [true]),.sl exA.length (recs aC exA)] 0),(2,.ref 0 [] 1 0 3),(3,.int .i64 0),(5,.int .i64 4),(7,.int .i64 4)],[(0,.osl 1 3 (wds [[],[1],[1,1]]))],1⟩ rfl ?_
 refine aU ?_
 refine Xg [1] [] aA aA (fun f _ r=>if f=32 then r=.agg (Qr exV exW) else r=.tup [.agg (Qr exF exC),.int .i64 0]) (by simp [au,HV.deep,aQ,kW,Bf]) (by simp) ?_
 refine zF ⟨?_⟩
 refine fG aG bz hwd ⟨_,rfl,rfl⟩ ?_
 rintro _ rfl -
 simp only [Qr]
 refine ⟨(by simp only [aO,IQ,HV.refFree,dU,HV.noRd,HL.ints_noRd,HL.bools_noRd,wG,Bool.or_true,Bool.true_or,CU,vY,Bool.and_true,uj,Bool.and_self,LQ,beq_self_eq_true,List.cons_append,List.nil_append]),_,_,_,_,_,IB,(by decide),(by simp only [tV,Ae];try rfl),?_⟩
 refine zF ⟨?_⟩
 refine fG aG bz hcm ⟨_,rfl,rfl⟩ ?_
 rintro _ rfl -
 refine ⟨(by simp only [aO,IQ,HV.refFree,dU,HV.noRd,HL.ints_noRd,HL.bools_noRd,wG,Bool.or_true,Bool.true_or,CU,vY,Bool.and_true,uj,Bool.and_self,LQ,beq_self_eq_true,List.cons_append,List.nil_append]),_,_,_,_,_,IB,(by decide),(by simp only [tV,Ae];try rfl),?_⟩
 refine zQ ⟨?_⟩
 refine aP 129 [0,2,3,5,7,8,9] ⟨[(0,.bool false),(2,.ref 0 [] 1 0 3),(3,.int .i64 0),(5,.int .i64 4),(7,.int .i64 4),(8,.ptr [.sl exF.length (HL.bools exF),.sl exC.length (recs aC exC)] 0),(9,.int .i64 0)],[(0,.osl 1 3 (wds [[],[1],[1,1]]))],1⟩ rfl ?_
 refine aU ?_
 refine xh 2 (by rfl) ?_
 simp only [List.take_succ_cons,List.take_zero,List.drop_succ_cons,List.drop_zero]
 refine zQ ⟨?_⟩
 refine aP 17 [0,2,3,5,7,8,9,42,43] ⟨[(0,.bool false),(2,.ref 0 [] 1 0 3),(3,.int .i64 0),(5,.int .i64 4),(7,.int .i64 4),(8,.ptr [.sl exF.length (HL.bools exF),.sl exC.length (recs aC exC)] 0),(9,.int .i64 0),(42,.agg [.sl exF.length (HL.bools exF),.sl exC.length (recs aC exC)]),(43,.sl 2 [.int .i64 0,.int .i64 0])],[(0,.osl 1 3 (wds [[],[1],[1,1]]))],1⟩ rfl ?_
 refine bg ?_
 refine aX aG bz (h4) ?_
 rintro _ rfl
 refine zG ⟨?_⟩
 refine zQ ⟨?_⟩
 refine bV [0,2,3,5,7,9,10,11] ⟨[(0,.bool false),(2,.ref 0 [] 1 0 3),(3,.int .i64 0),(5,.int .i64 4),(7,.int .i64 4),(9,.int .i64 0),(10,.ref 1 [] 1 0 1),(11,.int .i64 0)],[(0,.osl 1 3 (wds [[],[1],[1,1]])),(1,.osl 1 1 (wds [[2,2]]))],2⟩ rfl ?_
 refine zF ⟨?_⟩
 refine aX aG bz (w1) ?_
 rintro _ rfl
 refine zG ⟨?_⟩
 refine zF ⟨?_⟩
 refine aX aG bz (w2) ?_
 rintro _ rfl
 refine zG ⟨?_⟩
 refine zF ⟨?_⟩
 refine ae ?_
 rfl
end Go.Proofs.Ytlbdmpjnmfmnfaa
end
