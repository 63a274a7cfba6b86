import Derived.Test.YtlbdmpjnmfmnfaaFt7
set_option linter.unusedSimpArgs false
set_option linter.unusedVariables false
namespace Go.Proofs.Ytlbdmpjnmfmnfaa
open Go.RowKit Go.HL Go.FS
set_option maxHeartbeats 8000000 in
theorem vM (fs ft:List Bool) (al bl:List A) (hfs:fs.length<=9223372036854775807) (hal:al.length<=9223372036854775807) (hft:ft.length<=9223372036854775807) (hbl:bl.length<=9223372036854775807):HT Try.prog 21 [.agg (gX fs al),.agg (gX ft bl)] (fun r=>r=.tup [.agg (BF (qW fs ft al bl).1.1 (qW fs ft al bl).1.2),.int .i64 (qW fs ft al bl).2]):=by
 refine HT.ofC rfl YA [4,5] rfl (Nat.le_of_ble_eq_true rfl) ?_
 unfold c21
 have hv1:=sF fs al hfs hal
 have hv2:=sF ft bl hft hbl
 have hf1:=J5 fs al
 have hf2:=J5 ft bl
 simp only [aW,Nat.reduceAdd]
 simp only [gX,ji] at hv1 hv2 hf1 hf2 ⊢
 repeat (first|refine ag ?_|refine af ?_|refine ah ?_|refine ae ?_|refine gK ?_|refine fF ?_|refine bY dZ ?_)
 refine bZ bJ cZ (hv1) ?_
 rintro _ rfl
 by_cases ho1:okF fs al=true
 ·rw [ho1]
  refine ⟨bP,_,_,_,_,_,gV,(by decide),bH,?_⟩
  repeat (first|refine ag ?_|refine aQ ?_|refine ja (by rfl) ?_|refine gK ?_)
  refine bZ bJ cZ (hv2) ?_
  rintro _ rfl
  by_cases ho2:okF ft bl=true
  ·rw [ho2]
   refine ⟨bP,_,_,_,_,_,gV,(by decide),bH,?_⟩
   repeat (first|refine aQ ?_|refine af ?_|refine aK ?_|refine au ?_|refine ah ?_|refine aA ?_|refine ja (by rfl) ?_)
   refine fB bK bK (fun _ args r=>YB args r) ?_
   repeat (first|refine gK ?_)
   refine iy bJ cZ (hf1 ho1) ⟨_,⟨fs,al,rfl,rfl⟩,by simp [HV.deep,wu]⟩ ?_
   rintro _ hr1 -
   obtain rfl:=Kv hr1
   refine ⟨(by simp only [bf,wW,HV.refFree,eu,HV.noRd,HL.ints_noRd,HL.bools_noRd,Bool.or_true,Bool.true_or,Bool.or_false,Bool.false_or,Bool.and_true,Bool.true_and,Bool.and_self,List.isEmpty_nil,beq_self_eq_true,List.cons_append,List.nil_append]),_,_,_,_,_,gV,(by decide),bH,?_⟩
   repeat (first|refine gK ?_)
   refine iy bJ cZ (hf2 ho2) ⟨_,⟨ft,bl,rfl,rfl⟩,by simp [HV.deep,wu]⟩ ?_
   rintro _ hr2 -
   obtain rfl:=Kv hr2
   refine ⟨(by simp only [bf,wW,HV.refFree,eu,HV.noRd,HL.ints_noRd,HL.bools_noRd,Bool.or_true,Bool.true_or,Bool.or_false,Bool.false_or,Bool.and_true,Bool.true_and,Bool.and_self,List.isEmpty_nil,beq_self_eq_true,List.cons_append,List.nil_append]),_,_,_,_,_,gV,(by decide),bH,?_⟩
   clear hr1 hr2 hv1 hv2 hf1 hf2
   have hl1:=gU (·.f) fs.length al
   have hl2:=gU (·.f) ft.length bl
   repeat (first|refine ag ?_|refine af ?_|refine ah ?_|refine ae ?_|refine mD (by rfl) aJ aV jK mO (by rfl) og (by rfl) oh (by (try simp (disch:=omega) only [go_sem,reduceIte,Nat.reduceEqDiff,Nat.reduceAdd,Nat.reduceMul,wB]);try rfl) aS (by (try simp (disch:=omega) only [go_sem,wB]);try rfl) aV jA ?_|refine bQ ?_|refine bY dZ ?_|refine sZ dZ ?_|refine o7 (by rfl) aJ aJ kS (by trivial) kS (by exact eY rfl) ⟨rfl,rfl⟩ (by (try simp (disch:=omega) only [go_sem,reduceIte,Nat.reduceEqDiff,Nat.reduceAdd,Nat.reduceMul,wB]);try rfl) aV jA ?_|refine di ?_)
   refine Du bJ ?_
   repeat (first|refine ag ?_|refine af ?_|refine ah ?_|refine ae ?_|refine aG ?_)
   refine gY 448 [1,4] [2,3,4,5,6,7,8,9,10,11,12] (⟨[(2,.pref 0 [] 0),(3,.pref 1 [] 0),(4,.pref 2 [] 0),(5,.int .i64 0),(6,.ref 3 [] 1 0 fs.length),(7,.ref 4 [] 1 0 ft.length),(8,.pref 5 [] 0),(9,.pref 6 [] 0),(10,.pref 7 [] 0),(11,.fn 65 [.pref 5 [] 0,.pref 6 [] 0,.pref 7 [] 0]),(12,.int .i64 0)],[(0,.optr [.sl fs.length (HL.bools fs),.sl al.length (recs aC al)]),(1,.optr [.sl ft.length (HL.bools ft),.sl bl.length (recs aC bl)]),(2,.optr [.nils,.nils]),(3,.osl 1 fs.length (fA (bD (·.f) fs.length al))),(4,.osl 1 ft.length (fA (bD (·.f) ft.length bl))),(5,jd [(0,0)]),(6,je [(0,0)]),(7,iY [] [])],8⟩:St) rfl rfl ?_
   refine bM 0 [2,3,4,5,6,7,8,9,10,11,12] ⟨[(2,.ptr (stripL [.sl fs.length (HL.bools fs),.sl al.length (recs aC al)]) 0),(3,.pref 0 [] 0),(4,.pref 1 [] 0),(5,.int .i64 0),(6,.ref 2 [] 1 0 fs.length),(7,.ref 3 [] 1 0 ft.length),(8,.pref 4 [] 0),(9,.pref 5 [] 0),(10,.pref 6 [] 0),(11,.fn 65 [.pref 4 [] 0,.pref 5 [] 0,.pref 6 [] 0]),(12,.int .i64 0)],[(0,.optr [.sl ft.length (HL.bools ft),.sl bl.length (recs aC bl)]),(1,.optr [.nils,.nils]),(2,.osl 1 fs.length (fA (bD (·.f) fs.length al))),(3,.osl 1 ft.length (fA (bD (·.f) ft.length bl))),(4,jd [(0,0)]),(5,je [(0,0)]),(6,iY [] [])],7⟩ rfl ?_
   rw [ng]
   refine bM 0 [2,3,4,5,6,7,8,9,10,11,12] ⟨[(2,.ptr [.sl fs.length (HL.bools fs),.sl al.length (recs aC al)] 0),(3,.ptr (stripL [.sl ft.length (HL.bools ft),.sl bl.length (recs aC bl)]) 0),(4,.pref 0 [] 0),(5,.int .i64 0),(6,.ref 1 [] 1 0 fs.length),(7,.ref 2 [] 1 0 ft.length),(8,.pref 3 [] 0),(9,.pref 4 [] 0),(10,.pref 5 [] 0),(11,.fn 65 [.pref 3 [] 0,.pref 4 [] 0,.pref 5 [] 0]),(12,.int .i64 0)],[(0,.optr [.nils,.nils]),(1,.osl 1 fs.length (fA (bD (·.f) fs.length al))),(2,.osl 1 ft.length (fA (bD (·.f) ft.length bl))),(3,jd [(0,0)]),(4,je [(0,0)]),(5,iY [] [])],6⟩ rfl ?_
   rw [ng ft]
   have e1:stripL (win (fA (bD (·.f) fs.length al)) 0 (fs.length*1))=dW (bD (·.f) fs.length al):=by rw [iJ _ (by rw [qA,hl1,Nat.mul_one]),kD]
   have e2:stripL (win (fA (bD (·.f) ft.length bl)) 0 (ft.length*1))=dW (bD (·.f) ft.length bl):=by rw [iJ _ (by rw [qA,hl2,Nat.mul_one]),kD]
   refine bM 1 [2,3,4,5,6,7,8,9,10,11,12] ⟨[(2,.ptr [.sl fs.length (HL.bools fs),.sl al.length (recs aC al)] 0),(3,.ptr [.sl ft.length (HL.bools ft),.sl bl.length (recs aC bl)] 0),(4,.pref 0 [] 0),(5,.int .i64 0),(6,.sl fs.length (stripL (win (fA (bD (·.f) fs.length al)) 0 (fs.length*1)))),(7,.ref 1 [] 1 0 ft.length),(8,.pref 2 [] 0),(9,.pref 3 [] 0),(10,.pref 4 [] 0),(11,.fn 65 [.pref 2 [] 0,.pref 3 [] 0,.pref 4 [] 0]),(12,.int .i64 0)],[(0,.optr [.nils,.nils]),(1,.osl 1 ft.length (fA (bD (·.f) ft.length bl))),(2,jd [(0,0)]),(3,je [(0,0)]),(4,iY [] [])],5⟩ rfl ?_
   rw [e1]
   refine bM 1 [2,3,4,5,6,7,8,9,10,11,12] ⟨[(2,.ptr [.sl fs.length (HL.bools fs),.sl al.length (recs aC al)] 0),(3,.ptr [.sl ft.length (HL.bools ft),.sl bl.length (recs aC bl)] 0),(4,.pref 0 [] 0),(5,.int .i64 0),(6,.sl fs.length (dW (bD (·.f) fs.length al))),(7,.sl ft.length (stripL (win (fA (bD (·.f) ft.length bl)) 0 (ft.length*1)))),(8,.pref 1 [] 0),(9,.pref 2 [] 0),(10,.pref 3 [] 0),(11,.fn 65 [.pref 1 [] 0,.pref 2 [] 0,.pref 3 [] 0]),(12,.int .i64 0)],[(0,.optr [.nils,.nils]),(1,jd [(0,0)]),(2,je [(0,0)]),(3,iY [] [])],4⟩ rfl ?_
   rw [e2]
   clear e1 e2
   exact Gq fs ft al bl ho1 ho2
  ·rw [show okF ft bl=false by simpa using ho2]
   have ht:qW fs ft al bl=(([],[]),1):=by unfold qW;rw [if_neg fun h=>ho2 h.2]
   refine ⟨bP,_,_,_,_,_,gV,(by decide),bH,?_⟩
   repeat (first|refine ag ?_|refine aQ ?_|refine af ?_|refine aK ?_|refine ak ?_|refine ah ?_|refine ae ?_|refine iK (by rfl) ?_|refine dV ?_|refine di ?_)
   refine gY 32 [1,4] [4,5] (⟨[(4,.pref 0 [] 0),(5,.int .i64 1)],[(0,.optr [.osl 1 0 [],.osl 4 0 []])],1⟩:St) rfl rfl ?_
   refine ax ?_
   exact ⟨_,_,rfl,rfl,by rw [ht];rfl⟩
 ·rw [show okF fs al=false by simpa using ho1]
  have ht:qW fs ft al bl=(([],[]),1):=by unfold qW;rw [if_neg fun h=>ho1 h.1]
  refine ⟨bP,_,_,_,_,_,gV,(by decide),bH,?_⟩
  repeat (first|refine ag ?_|refine dm ?_|refine af ?_|refine aO ?_|refine ak ?_|refine ah ?_|refine ae ?_|refine iK (by rfl) ?_|refine dV ?_|refine di ?_)
  refine gY 32 [1,4] [4,5] (⟨[(4,.pref 0 [] 0),(5,.int .i64 1)],[(0,.optr [.osl 1 0 [],.osl 4 0 []])],1⟩:St) rfl rfl ?_
  refine ax ?_
  exact ⟨_,_,rfl,rfl,by rw [ht];rfl⟩
end Go.Proofs.Ytlbdmpjnmfmnfaa
