import Derived.Test.YtlbdmpjnmfmnfaaFt7
set_option linter.unusedSimpArgs false
set_option linter.unusedVariables false
namespace Go.Proofs.Ytlbdmpjnmfmnfaa
open Go.RowKit Go.HL Go.FS
set_option maxHeartbeats 8000000 in
theorem Dt (fs ft:List Bool) (al bl:List A) (hfs:fs.length<=9223372036854775807) (hal:al.length<=9223372036854775807) (hft:ft.length<=9223372036854775807) (hbl:bl.length<=9223372036854775807):HT Try.prog 21 [.agg (fA fs al),.agg (fA ft bl)] (fun r=>r=.tup [.agg (DD (uI fs ft al bl).1.1 (uI fs ft al bl).1.2),.int .i64 (uI fs ft al bl).2]):=by
 refine HT.ofC rfl ZB [4,5] rfl (Nat.le_of_ble_eq_true rfl) ?_
 unfold c21
 have hv1:=kD fs al hfs hal
 have hv2:=kD ft bl hft hbl
 have hf1:=Kr fs al
 have hf2:=Kr ft bl
 simp only [aW,Nat.reduceAdd]
 simp only [fA,iw] at hv1 hv2 hf1 hf2 ⊢
 repeat (first|refine ah ?_|refine af ?_|refine au ?_|refine ae ?_|refine fZ ?_|refine dD ?_|refine bG dS ?_)
 refine dG bK dh (hv1) ?_
 rintro _ rfl
 by_cases ho1:okF fs al=true
 ·rw [ho1]
  refine ⟨bP,_,_,_,_,_,gU,(by decide),bJ,?_⟩
  repeat (first|refine ah ?_|refine aN ?_|refine iJ (by rfl) ?_|refine fZ ?_)
  refine dG bK dh (hv2) ?_
  rintro _ rfl
  by_cases ho2:okF ft bl=true
  ·rw [ho2]
   refine ⟨bP,_,_,_,_,_,gU,(by decide),bJ,?_⟩
   repeat (first|refine aN ?_|refine af ?_|refine aP ?_|refine ax ?_|refine au ?_|refine aF ?_|refine iJ (by rfl) ?_)
   refine dV aY aY (fun _ args r=>frD args r) ?_
   repeat (first|refine fZ ?_)
   refine dK bK dh (hf1 ho1) ⟨_,⟨fs,al,rfl,rfl⟩,by simp [HV.deep,xA]⟩ ?_
   rintro _ hr1 -
   obtain rfl:=Jt hr1
   refine ⟨(by simp only [bD,wM,HV.refFree,fJ,HV.noRd,HL.ints_noRd,HL.bools_noRd,Bool.or_true,Bool.true_or,Bool.or_false,Bool.false_or,Bool.and_true,Bool.true_and,Bool.and_self,List.isEmpty_nil,beq_self_eq_true,List.cons_append,List.nil_append]),_,_,_,_,_,gU,(by decide),bJ,?_⟩
   repeat (first|refine fZ ?_)
   refine dK bK dh (hf2 ho2) ⟨_,⟨ft,bl,rfl,rfl⟩,by simp [HV.deep,xA]⟩ ?_
   rintro _ hr2 -
   obtain rfl:=Jt hr2
   refine ⟨(by simp only [bD,wM,HV.refFree,fJ,HV.noRd,HL.ints_noRd,HL.bools_noRd,Bool.or_true,Bool.true_or,Bool.or_false,Bool.false_or,Bool.and_true,Bool.true_and,Bool.and_self,List.isEmpty_nil,beq_self_eq_true,List.cons_append,List.nil_append]),_,_,_,_,_,gU,(by decide),bJ,?_⟩
   clear hr1 hr2 hv1 hv2 hf1 hf2
   have hl1:=iL (·.f) fs.length al
   have hl2:=iL (·.f) ft.length bl
   repeat (first|refine ah ?_|refine af ?_|refine au ?_|refine ae ?_|refine kF (by rfl) aJ aK jy kK (by rfl) kP (by rfl) kN (by (try simp (disch:=omega) only [go_sem,reduceIte,Nat.reduceEqDiff,Nat.reduceAdd,Nat.reduceMul,wU]);try rfl) aG (by (try simp (disch:=omega) only [go_sem,wU]);try rfl) aK jc ?_|refine bU ?_|refine bG dS ?_|refine ug dS ?_|refine pW (by rfl) aJ aJ lN (by trivial) lN (by exact eY rfl) ⟨rfl,rfl⟩ (by (try simp (disch:=omega) only [go_sem,reduceIte,Nat.reduceEqDiff,Nat.reduceAdd,Nat.reduceMul,wU]);try rfl) aK jc ?_|refine bZ ?_)
   refine vZ bK ?_
   repeat (first|refine ah ?_|refine af ?_|refine au ?_|refine ae ?_|refine aA ?_)
   refine fF 448 [1,4] [2,3,4,5,6,7,8,9,10,11,12] (⟨[(2,.pref 0 [] 0),(3,.pref 1 [] 0),(4,.pref 2 [] 0),(5,.int .i64 0),(6,.ref 3 [] 1 0 fs.length),(7,.ref 4 [] 1 0 ft.length),(8,.pref 5 [] 0),(9,.pref 6 [] 0),(10,.pref 7 [] 0),(11,.fn 65 [.pref 5 [] 0,.pref 6 [] 0,.pref 7 [] 0]),(12,.int .i64 0)],[(0,.optr [.sl fs.length (HL.bools fs),.sl al.length (recs aC al)]),(1,.optr [.sl ft.length (HL.bools ft),.sl bl.length (recs aC bl)]),(2,.optr [.nils,.nils]),(3,.osl 1 fs.length (fP (bM (·.f) fs.length al))),(4,.osl 1 ft.length (fP (bM (·.f) ft.length bl))),(5,jH [(0,0)]),(6,jI [(0,0)]),(7,jB [] [])],8⟩:St) rfl rfl ?_
   refine bg 0 [2,3,4,5,6,7,8,9,10,11,12] ⟨[(2,.ptr (stripL [.sl fs.length (HL.bools fs),.sl al.length (recs aC al)]) 0),(3,.pref 0 [] 0),(4,.pref 1 [] 0),(5,.int .i64 0),(6,.ref 2 [] 1 0 fs.length),(7,.ref 3 [] 1 0 ft.length),(8,.pref 4 [] 0),(9,.pref 5 [] 0),(10,.pref 6 [] 0),(11,.fn 65 [.pref 4 [] 0,.pref 5 [] 0,.pref 6 [] 0]),(12,.int .i64 0)],[(0,.optr [.sl ft.length (HL.bools ft),.sl bl.length (recs aC bl)]),(1,.optr [.nils,.nils]),(2,.osl 1 fs.length (fP (bM (·.f) fs.length al))),(3,.osl 1 ft.length (fP (bM (·.f) ft.length bl))),(4,jH [(0,0)]),(5,jI [(0,0)]),(6,jB [] [])],7⟩ rfl ?_
   rw [iU]
   refine bg 0 [2,3,4,5,6,7,8,9,10,11,12] ⟨[(2,.ptr [.sl fs.length (HL.bools fs),.sl al.length (recs aC al)] 0),(3,.ptr (stripL [.sl ft.length (HL.bools ft),.sl bl.length (recs aC bl)]) 0),(4,.pref 0 [] 0),(5,.int .i64 0),(6,.ref 1 [] 1 0 fs.length),(7,.ref 2 [] 1 0 ft.length),(8,.pref 3 [] 0),(9,.pref 4 [] 0),(10,.pref 5 [] 0),(11,.fn 65 [.pref 3 [] 0,.pref 4 [] 0,.pref 5 [] 0]),(12,.int .i64 0)],[(0,.optr [.nils,.nils]),(1,.osl 1 fs.length (fP (bM (·.f) fs.length al))),(2,.osl 1 ft.length (fP (bM (·.f) ft.length bl))),(3,jH [(0,0)]),(4,jI [(0,0)]),(5,jB [] [])],6⟩ rfl ?_
   rw [iU ft]
   have e1:stripL (win (fP (bM (·.f) fs.length al)) 0 (fs.length*1))=fD (bM (·.f) fs.length al):=by rw [jO _ (by rw [qM,hl1,Nat.mul_one]),lu]
   have e2:stripL (win (fP (bM (·.f) ft.length bl)) 0 (ft.length*1))=fD (bM (·.f) ft.length bl):=by rw [jO _ (by rw [qM,hl2,Nat.mul_one]),lu]
   refine bg 1 [2,3,4,5,6,7,8,9,10,11,12] ⟨[(2,.ptr [.sl fs.length (HL.bools fs),.sl al.length (recs aC al)] 0),(3,.ptr [.sl ft.length (HL.bools ft),.sl bl.length (recs aC bl)] 0),(4,.pref 0 [] 0),(5,.int .i64 0),(6,.sl fs.length (stripL (win (fP (bM (·.f) fs.length al)) 0 (fs.length*1)))),(7,.ref 1 [] 1 0 ft.length),(8,.pref 2 [] 0),(9,.pref 3 [] 0),(10,.pref 4 [] 0),(11,.fn 65 [.pref 2 [] 0,.pref 3 [] 0,.pref 4 [] 0]),(12,.int .i64 0)],[(0,.optr [.nils,.nils]),(1,.osl 1 ft.length (fP (bM (·.f) ft.length bl))),(2,jH [(0,0)]),(3,jI [(0,0)]),(4,jB [] [])],5⟩ rfl ?_
   rw [e1]
   refine bg 1 [2,3,4,5,6,7,8,9,10,11,12] ⟨[(2,.ptr [.sl fs.length (HL.bools fs),.sl al.length (recs aC al)] 0),(3,.ptr [.sl ft.length (HL.bools ft),.sl bl.length (recs aC bl)] 0),(4,.pref 0 [] 0),(5,.int .i64 0),(6,.sl fs.length (fD (bM (·.f) fs.length al))),(7,.sl ft.length (stripL (win (fP (bM (·.f) ft.length bl)) 0 (ft.length*1)))),(8,.pref 1 [] 0),(9,.pref 2 [] 0),(10,.pref 3 [] 0),(11,.fn 65 [.pref 1 [] 0,.pref 2 [] 0,.pref 3 [] 0]),(12,.int .i64 0)],[(0,.optr [.nils,.nils]),(1,jH [(0,0)]),(2,jI [(0,0)]),(3,jB [] [])],4⟩ rfl ?_
   rw [e2]
   clear e1 e2
   exact Iz fs ft al bl ho1 ho2
  ·rw [show okF ft bl=false by simpa using ho2]
   have ht:uI fs ft al bl=(([],[]),1):=by unfold uI;rw [if_neg fun h=>ho2 h.2]
   refine ⟨bP,_,_,_,_,_,gU,(by decide),bJ,?_⟩
   repeat (first|refine ah ?_|refine aN ?_|refine af ?_|refine aP ?_|refine ak ?_|refine au ?_|refine ae ?_|refine je (by rfl) ?_|refine cu ?_|refine bZ ?_)
   refine fF 32 [1,4] [4,5] (⟨[(4,.pref 0 [] 0),(5,.int .i64 1)],[(0,.optr [.osl 1 0 [],.osl 4 0 []])],1⟩:St) rfl rfl ?_
   refine ay ?_
   exact ⟨_,_,rfl,rfl,by rw [ht];rfl⟩
 ·rw [show okF fs al=false by simpa using ho1]
  have ht:uI fs ft al bl=(([],[]),1):=by unfold uI;rw [if_neg fun h=>ho1 h.1]
  refine ⟨bP,_,_,_,_,_,gU,(by decide),bJ,?_⟩
  repeat (first|refine ah ?_|refine dn ?_|refine af ?_|refine aV ?_|refine ak ?_|refine au ?_|refine ae ?_|refine je (by rfl) ?_|refine cu ?_|refine bZ ?_)
  refine fF 32 [1,4] [4,5] (⟨[(4,.pref 0 [] 0),(5,.int .i64 1)],[(0,.optr [.osl 1 0 [],.osl 4 0 []])],1⟩:St) rfl rfl ?_
  refine ay ?_
  exact ⟨_,_,rfl,rfl,by rw [ht];rfl⟩
end Go.Proofs.Ytlbdmpjnmfmnfaa
