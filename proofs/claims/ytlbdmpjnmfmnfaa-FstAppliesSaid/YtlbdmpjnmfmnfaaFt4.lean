import Derived.Test.YtlbdmpjnmfmnfaaFt7
set_option linter.unusedSimpArgs false
set_option linter.unusedVariables false
namespace Go.Proofs.Ytlbdmpjnmfmnfaa
open Go.RowKit Go.HL Go.FS
set_option maxHeartbeats 8000000 in
theorem Ea (fs ft:List Bool) (al bl:List A) (hfs:fs.length<=9223372036854775807) (hal:al.length<=9223372036854775807) (hft:ft.length<=9223372036854775807) (hbl:bl.length<=9223372036854775807):HT Try.prog 21 [.agg (fK fs al),.agg (fK ft bl)] (fun r=>r=.tup [.agg (DX (uu fs ft al bl).1.1 (uu fs ft al bl).1.2),.int .i64 (uu fs ft al bl).2]):=by
 refine HT.ofC rfl ab9 [4,5] rfl (Nat.le_of_ble_eq_true rfl) ?_
 unfold c21
 have hv1:=tJ fs al hfs hal
 have hv2:=tJ ft bl hft hbl
 have hf1:=LZ fs al
 have hf2:=LZ ft bl
 simp only [aX,Nat.reduceAdd]
 simp only [fK,gX] at hv1 hv2 hf1 hf2 ⊢
 repeat (first|refine ah ?_|refine af ?_|refine au ?_|refine ae ?_|refine fU ?_|refine di ?_|refine bU dN ?_)
 refine dF bW dm (hv1) ?_
 rintro _ rfl
 by_cases ho1:okF fs al=true
 ·rw [ho1]
  refine ⟨cO,_,_,_,_,_,gY,(by decide),bT,?_⟩
  repeat (first|refine ah ?_|refine aO ?_|refine gI (by rfl) ?_|refine fU ?_)
  refine dF bW dm (hv2) ?_
  rintro _ rfl
  by_cases ho2:okF ft bl=true
  ·rw [ho2]
   refine ⟨cO,_,_,_,_,_,gY,(by decide),bT,?_⟩
   repeat (first|refine aO ?_|refine af ?_|refine aN ?_|refine ax ?_|refine au ?_|refine aH ?_|refine gI (by rfl) ?_)
   refine dG bu bu (fun _ args r=>frD args r) ?_
   repeat (first|refine fU ?_)
   refine fD bW dm (hf1 ho1) ⟨_,⟨fs,al,rfl,rfl⟩,by simp [HV.deep,xn]⟩ ?_
   rintro _ hr1 -
   obtain rfl:=JP hr1
   refine ⟨(by simp only [bG,wM,HV.refFree,fM,HV.noRd,HL.ints_noRd,HL.bools_noRd,Bool.or_true,Bool.true_or,Bool.or_false,Bool.false_or,Bool.and_true,Bool.true_and,Bool.and_self,List.isEmpty_nil,beq_self_eq_true,List.cons_append,List.nil_append]),_,_,_,_,_,gY,(by decide),bT,?_⟩
   repeat (first|refine fU ?_)
   refine fD bW dm (hf2 ho2) ⟨_,⟨ft,bl,rfl,rfl⟩,by simp [HV.deep,xn]⟩ ?_
   rintro _ hr2 -
   obtain rfl:=JP hr2
   refine ⟨(by simp only [bG,wM,HV.refFree,fM,HV.noRd,HL.ints_noRd,HL.bools_noRd,Bool.or_true,Bool.true_or,Bool.or_false,Bool.false_or,Bool.and_true,Bool.true_and,Bool.and_self,List.isEmpty_nil,beq_self_eq_true,List.cons_append,List.nil_append]),_,_,_,_,_,gY,(by decide),bT,?_⟩
   clear hr1 hr2 hv1 hv2 hf1 hf2
   have hl1:=fJ (·.f) fs.length al
   have hl2:=fJ (·.f) ft.length bl
   repeat (first|refine ah ?_|refine af ?_|refine au ?_|refine ae ?_|refine kF (by rfl) aQ aI iW kG (by rfl) kX (by rfl) kY (by (try simp (disch:=omega) only [go_sem,reduceIte,Nat.reduceEqDiff,Nat.reduceAdd,Nat.reduceMul,wu]);try rfl) aG (by (try simp (disch:=omega) only [go_sem,wu]);try rfl) aI jk ?_|refine bP ?_|refine bU dN ?_|refine ug dN ?_|refine pY (by rfl) aQ aQ lL (by trivial) lL (by exact eY rfl) ⟨rfl,rfl⟩ (by (try simp (disch:=omega) only [go_sem,reduceIte,Nat.reduceEqDiff,Nat.reduceAdd,Nat.reduceMul,wu]);try rfl) aI jk ?_|refine dB ?_)
   refine Ew bW ?_
   repeat (first|refine ah ?_|refine af ?_|refine au ?_|refine ae ?_|refine aA ?_)
   refine gQ 448 [1,4] [2,3,4,5,6,7,8,9,10,11,12] (⟨[(2,.pref 0 [] 0),(3,.pref 1 [] 0),(4,.pref 2 [] 0),(5,.int .i64 0),(6,.ref 3 [] 1 0 fs.length),(7,.ref 4 [] 1 0 ft.length),(8,.pref 5 [] 0),(9,.pref 6 [] 0),(10,.pref 7 [] 0),(11,.fn 65 [.pref 5 [] 0,.pref 6 [] 0,.pref 7 [] 0]),(12,.int .i64 0)],[(0,.optr [.sl fs.length (HL.bools fs),.sl al.length (recs aC al)]),(1,.optr [.sl ft.length (HL.bools ft),.sl bl.length (recs aC bl)]),(2,.optr [.nils,.nils]),(3,.osl 1 fs.length (fA (bn (·.f) fs.length al))),(4,.osl 1 ft.length (fA (bn (·.f) ft.length bl))),(5,jH [(0,0)]),(6,jG [(0,0)]),(7,jr [] [])],8⟩:St) rfl rfl ?_
   refine bF 0 [2,3,4,5,6,7,8,9,10,11,12] ⟨[(2,.ptr (stripL [.sl fs.length (HL.bools fs),.sl al.length (recs aC al)]) 0),(3,.pref 0 [] 0),(4,.pref 1 [] 0),(5,.int .i64 0),(6,.ref 2 [] 1 0 fs.length),(7,.ref 3 [] 1 0 ft.length),(8,.pref 4 [] 0),(9,.pref 5 [] 0),(10,.pref 6 [] 0),(11,.fn 65 [.pref 4 [] 0,.pref 5 [] 0,.pref 6 [] 0]),(12,.int .i64 0)],[(0,.optr [.sl ft.length (HL.bools ft),.sl bl.length (recs aC bl)]),(1,.optr [.nils,.nils]),(2,.osl 1 fs.length (fA (bn (·.f) fs.length al))),(3,.osl 1 ft.length (fA (bn (·.f) ft.length bl))),(4,jH [(0,0)]),(5,jG [(0,0)]),(6,jr [] [])],7⟩ rfl ?_
   rw [jy]
   refine bF 0 [2,3,4,5,6,7,8,9,10,11,12] ⟨[(2,.ptr [.sl fs.length (HL.bools fs),.sl al.length (recs aC al)] 0),(3,.ptr (stripL [.sl ft.length (HL.bools ft),.sl bl.length (recs aC bl)]) 0),(4,.pref 0 [] 0),(5,.int .i64 0),(6,.ref 1 [] 1 0 fs.length),(7,.ref 2 [] 1 0 ft.length),(8,.pref 3 [] 0),(9,.pref 4 [] 0),(10,.pref 5 [] 0),(11,.fn 65 [.pref 3 [] 0,.pref 4 [] 0,.pref 5 [] 0]),(12,.int .i64 0)],[(0,.optr [.nils,.nils]),(1,.osl 1 fs.length (fA (bn (·.f) fs.length al))),(2,.osl 1 ft.length (fA (bn (·.f) ft.length bl))),(3,jH [(0,0)]),(4,jG [(0,0)]),(5,jr [] [])],6⟩ rfl ?_
   rw [jy ft]
   have e1:stripL (win (fA (bn (·.f) fs.length al)) 0 (fs.length*1))=dL (bn (·.f) fs.length al):=by rw [jc _ (by rw [oh,hl1,Nat.mul_one]),jv]
   have e2:stripL (win (fA (bn (·.f) ft.length bl)) 0 (ft.length*1))=dL (bn (·.f) ft.length bl):=by rw [jc _ (by rw [oh,hl2,Nat.mul_one]),jv]
   refine bF 1 [2,3,4,5,6,7,8,9,10,11,12] ⟨[(2,.ptr [.sl fs.length (HL.bools fs),.sl al.length (recs aC al)] 0),(3,.ptr [.sl ft.length (HL.bools ft),.sl bl.length (recs aC bl)] 0),(4,.pref 0 [] 0),(5,.int .i64 0),(6,.sl fs.length (stripL (win (fA (bn (·.f) fs.length al)) 0 (fs.length*1)))),(7,.ref 1 [] 1 0 ft.length),(8,.pref 2 [] 0),(9,.pref 3 [] 0),(10,.pref 4 [] 0),(11,.fn 65 [.pref 2 [] 0,.pref 3 [] 0,.pref 4 [] 0]),(12,.int .i64 0)],[(0,.optr [.nils,.nils]),(1,.osl 1 ft.length (fA (bn (·.f) ft.length bl))),(2,jH [(0,0)]),(3,jG [(0,0)]),(4,jr [] [])],5⟩ rfl ?_
   rw [e1]
   refine bF 1 [2,3,4,5,6,7,8,9,10,11,12] ⟨[(2,.ptr [.sl fs.length (HL.bools fs),.sl al.length (recs aC al)] 0),(3,.ptr [.sl ft.length (HL.bools ft),.sl bl.length (recs aC bl)] 0),(4,.pref 0 [] 0),(5,.int .i64 0),(6,.sl fs.length (dL (bn (·.f) fs.length al))),(7,.sl ft.length (stripL (win (fA (bn (·.f) ft.length bl)) 0 (ft.length*1)))),(8,.pref 1 [] 0),(9,.pref 2 [] 0),(10,.pref 3 [] 0),(11,.fn 65 [.pref 1 [] 0,.pref 2 [] 0,.pref 3 [] 0]),(12,.int .i64 0)],[(0,.optr [.nils,.nils]),(1,jH [(0,0)]),(2,jG [(0,0)]),(3,jr [] [])],4⟩ rfl ?_
   rw [e2]
   clear e1 e2
   exact H8 fs ft al bl ho1 ho2
  ·rw [show okF ft bl=false by simpa using ho2]
   have ht:uu fs ft al bl=(([],[]),1):=by unfold uu;rw [if_neg fun h=>ho2 h.2]
   refine ⟨cO,_,_,_,_,_,gY,(by decide),bT,?_⟩
   repeat (first|refine ah ?_|refine aO ?_|refine af ?_|refine aN ?_|refine ak ?_|refine au ?_|refine ae ?_|refine iG (by rfl) ?_|refine dw ?_|refine dB ?_)
   refine gQ 32 [1,4] [4,5] (⟨[(4,.pref 0 [] 0),(5,.int .i64 1)],[(0,.optr [.osl 1 0 [],.osl 4 0 []])],1⟩:St) rfl rfl ?_
   refine az ?_
   exact ⟨_,_,rfl,rfl,by rw [ht];rfl⟩
 ·rw [show okF fs al=false by simpa using ho1]
  have ht:uu fs ft al bl=(([],[]),1):=by unfold uu;rw [if_neg fun h=>ho1 h.1]
  refine ⟨cO,_,_,_,_,_,gY,(by decide),bT,?_⟩
  repeat (first|refine ah ?_|refine cu ?_|refine af ?_|refine aK ?_|refine ak ?_|refine au ?_|refine ae ?_|refine iG (by rfl) ?_|refine dw ?_|refine dB ?_)
  refine gQ 32 [1,4] [4,5] (⟨[(4,.pref 0 [] 0),(5,.int .i64 1)],[(0,.optr [.osl 1 0 [],.osl 4 0 []])],1⟩:St) rfl rfl ?_
  refine az ?_
  exact ⟨_,_,rfl,rfl,by rw [ht];rfl⟩
end Go.Proofs.Ytlbdmpjnmfmnfaa
