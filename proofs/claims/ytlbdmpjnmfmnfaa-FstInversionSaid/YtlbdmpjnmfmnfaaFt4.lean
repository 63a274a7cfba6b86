import Derived.Test.YtlbdmpjnmfmnfaaFt7
set_option linter.unusedSimpArgs false
set_option linter.unusedVariables false
namespace Go.Proofs.Ytlbdmpjnmfmnfaa
open Go.RowKit Go.HL Go.FS
set_option maxHeartbeats 8000000 in
theorem Dw (fs ft:List Bool) (al bl:List A) (hfs:fs.length<=9223372036854775807) (hal:al.length<=9223372036854775807) (hft:ft.length<=9223372036854775807) (hbl:bl.length<=9223372036854775807):HT Try.prog 21 [.agg (gQ fs al),.agg (gQ ft bl)] (fun r=>r=.tup [.agg (Di (uh fs ft al bl).1.1 (uh fs ft al bl).1.2),.int .i64 (uh fs ft al bl).2]):=by
 refine HT.ofC rfl Xt [4,5] rfl (Nat.le_of_ble_eq_true rfl) ?_
 unfold c21
 have hv1:=rq fs al hfs hal
 have hv2:=rq ft bl hft hbl
 have hf1:=JC fs al
 have hf2:=JC ft bl
 simp only [aS,Nat.reduceAdd]
 simp only [gQ,jC] at hv1 hv2 hf1 hf2 ⊢
 repeat (first|refine ag ?_|refine af ?_|refine ah ?_|refine ae ?_|refine gz ?_|refine fC ?_|refine bP dI ?_)
 refine bI bD cO (hv1) ?_
 rintro _ rfl
 by_cases ho1:okF fs al=true
 ·rw [ho1]
  refine ⟨bF,_,_,_,_,_,gq,(by decide),bC,?_⟩
  repeat (first|refine ag ?_|refine aK ?_|refine iY (by rfl) ?_|refine gz ?_)
  refine bI bD cO (hv2) ?_
  rintro _ rfl
  by_cases ho2:okF ft bl=true
  ·rw [ho2]
   refine ⟨bF,_,_,_,_,_,gq,(by decide),bC,?_⟩
   repeat (first|refine aK ?_|refine af ?_|refine aI ?_|refine ak ?_|refine ah ?_|refine aF ?_|refine iY (by rfl) ?_)
   refine fM bM bM (fun _ args r=>XG args r) ?_
   repeat (first|refine gz ?_)
   refine gZ bD cO (hf1 ho1) ⟨_,⟨fs,al,rfl,rfl⟩,by simp [HV.deep,vz]⟩ ?_
   rintro _ hr1 -
   obtain rfl:=JO hr1
   refine ⟨(by simp only [aX,vw,HV.refFree,dY,HV.noRd,HL.ints_noRd,HL.bools_noRd,Bool.or_true,Bool.true_or,Bool.or_false,Bool.false_or,Bool.and_true,Bool.true_and,Bool.and_self,List.isEmpty_nil,beq_self_eq_true,List.cons_append,List.nil_append]),_,_,_,_,_,gq,(by decide),bC,?_⟩
   repeat (first|refine gz ?_)
   refine gZ bD cO (hf2 ho2) ⟨_,⟨ft,bl,rfl,rfl⟩,by simp [HV.deep,vz]⟩ ?_
   rintro _ hr2 -
   obtain rfl:=JO hr2
   refine ⟨(by simp only [aX,vw,HV.refFree,dY,HV.noRd,HL.ints_noRd,HL.bools_noRd,Bool.or_true,Bool.true_or,Bool.or_false,Bool.false_or,Bool.and_true,Bool.true_and,Bool.and_self,List.isEmpty_nil,beq_self_eq_true,List.cons_append,List.nil_append]),_,_,_,_,_,gq,(by decide),bC,?_⟩
   clear hr1 hr2 hv1 hv2 hf1 hf2
   have hl1:=gB (·.f) fs.length al
   have hl2:=gB (·.f) ft.length bl
   repeat (first|refine ag ?_|refine af ?_|refine ah ?_|refine ae ?_|refine mi (by rfl) aO aQ jJ mP (by rfl) nX (by rfl) nV (by (try simp (disch:=omega) only [go_sem,reduceIte,Nat.reduceEqDiff,Nat.reduceAdd,Nat.reduceMul,wG]);try rfl) aT (by (try simp (disch:=omega) only [go_sem,wG]);try rfl) aQ jq ?_|refine bW ?_|refine bP dI ?_|refine rQ dI ?_|refine oC (by rfl) aO aO kM (by trivial) kM (by exact eY rfl) ⟨rfl,rfl⟩ (by (try simp (disch:=omega) only [go_sem,reduceIte,Nat.reduceEqDiff,Nat.reduceAdd,Nat.reduceMul,wG]);try rfl) aQ jq ?_|refine cZ ?_)
   refine DY bD ?_
   repeat (first|refine ag ?_|refine af ?_|refine ah ?_|refine ae ?_|refine aH ?_)
   refine gV 448 [1,4] [2,3,4,5,6,7,8,9,10,11,12] (⟨[(2,.pref 0 [] 0),(3,.pref 1 [] 0),(4,.pref 2 [] 0),(5,.int .i64 0),(6,.ref 3 [] 1 0 fs.length),(7,.ref 4 [] 1 0 ft.length),(8,.pref 5 [] 0),(9,.pref 6 [] 0),(10,.pref 7 [] 0),(11,.fn 65 [.pref 5 [] 0,.pref 6 [] 0,.pref 7 [] 0]),(12,.int .i64 0)],[(0,.optr [.sl fs.length (HL.bools fs),.sl al.length (recs aC al)]),(1,.optr [.sl ft.length (HL.bools ft),.sl bl.length (recs aC bl)]),(2,.optr [.nils,.nils]),(3,.osl 1 fs.length (eG (bz (·.f) fs.length al))),(4,.osl 1 ft.length (eG (bz (·.f) ft.length bl))),(5,iW [(0,0)]),(6,iV [(0,0)]),(7,iQ [] [])],8⟩:St) rfl rfl ?_
   refine bT 0 [2,3,4,5,6,7,8,9,10,11,12] ⟨[(2,.ptr (stripL [.sl fs.length (HL.bools fs),.sl al.length (recs aC al)]) 0),(3,.pref 0 [] 0),(4,.pref 1 [] 0),(5,.int .i64 0),(6,.ref 2 [] 1 0 fs.length),(7,.ref 3 [] 1 0 ft.length),(8,.pref 4 [] 0),(9,.pref 5 [] 0),(10,.pref 6 [] 0),(11,.fn 65 [.pref 4 [] 0,.pref 5 [] 0,.pref 6 [] 0]),(12,.int .i64 0)],[(0,.optr [.sl ft.length (HL.bools ft),.sl bl.length (recs aC bl)]),(1,.optr [.nils,.nils]),(2,.osl 1 fs.length (eG (bz (·.f) fs.length al))),(3,.osl 1 ft.length (eG (bz (·.f) ft.length bl))),(4,iW [(0,0)]),(5,iV [(0,0)]),(6,iQ [] [])],7⟩ rfl ?_
   rw [nK]
   refine bT 0 [2,3,4,5,6,7,8,9,10,11,12] ⟨[(2,.ptr [.sl fs.length (HL.bools fs),.sl al.length (recs aC al)] 0),(3,.ptr (stripL [.sl ft.length (HL.bools ft),.sl bl.length (recs aC bl)]) 0),(4,.pref 0 [] 0),(5,.int .i64 0),(6,.ref 1 [] 1 0 fs.length),(7,.ref 2 [] 1 0 ft.length),(8,.pref 3 [] 0),(9,.pref 4 [] 0),(10,.pref 5 [] 0),(11,.fn 65 [.pref 3 [] 0,.pref 4 [] 0,.pref 5 [] 0]),(12,.int .i64 0)],[(0,.optr [.nils,.nils]),(1,.osl 1 fs.length (eG (bz (·.f) fs.length al))),(2,.osl 1 ft.length (eG (bz (·.f) ft.length bl))),(3,iW [(0,0)]),(4,iV [(0,0)]),(5,iQ [] [])],6⟩ rfl ?_
   rw [nK ft]
   have e1:stripL (win (eG (bz (·.f) fs.length al)) 0 (fs.length*1))=dV (bz (·.f) fs.length al):=by rw [jd _ (by rw [pX,hl1,Nat.mul_one]),kH]
   have e2:stripL (win (eG (bz (·.f) ft.length bl)) 0 (ft.length*1))=dV (bz (·.f) ft.length bl):=by rw [jd _ (by rw [pX,hl2,Nat.mul_one]),kH]
   refine bT 1 [2,3,4,5,6,7,8,9,10,11,12] ⟨[(2,.ptr [.sl fs.length (HL.bools fs),.sl al.length (recs aC al)] 0),(3,.ptr [.sl ft.length (HL.bools ft),.sl bl.length (recs aC bl)] 0),(4,.pref 0 [] 0),(5,.int .i64 0),(6,.sl fs.length (stripL (win (eG (bz (·.f) fs.length al)) 0 (fs.length*1)))),(7,.ref 1 [] 1 0 ft.length),(8,.pref 2 [] 0),(9,.pref 3 [] 0),(10,.pref 4 [] 0),(11,.fn 65 [.pref 2 [] 0,.pref 3 [] 0,.pref 4 [] 0]),(12,.int .i64 0)],[(0,.optr [.nils,.nils]),(1,.osl 1 ft.length (eG (bz (·.f) ft.length bl))),(2,iW [(0,0)]),(3,iV [(0,0)]),(4,iQ [] [])],5⟩ rfl ?_
   rw [e1]
   refine bT 1 [2,3,4,5,6,7,8,9,10,11,12] ⟨[(2,.ptr [.sl fs.length (HL.bools fs),.sl al.length (recs aC al)] 0),(3,.ptr [.sl ft.length (HL.bools ft),.sl bl.length (recs aC bl)] 0),(4,.pref 0 [] 0),(5,.int .i64 0),(6,.sl fs.length (dV (bz (·.f) fs.length al))),(7,.sl ft.length (stripL (win (eG (bz (·.f) ft.length bl)) 0 (ft.length*1)))),(8,.pref 1 [] 0),(9,.pref 2 [] 0),(10,.pref 3 [] 0),(11,.fn 65 [.pref 1 [] 0,.pref 2 [] 0,.pref 3 [] 0]),(12,.int .i64 0)],[(0,.optr [.nils,.nils]),(1,iW [(0,0)]),(2,iV [(0,0)]),(3,iQ [] [])],4⟩ rfl ?_
   rw [e2]
   clear e1 e2
   exact Ha fs ft al bl ho1 ho2
  ·rw [show okF ft bl=false by simpa using ho2]
   have ht:uh fs ft al bl=(([],[]),1):=by unfold uh;rw [if_neg fun h=>ho2 h.2]
   refine ⟨bF,_,_,_,_,_,gq,(by decide),bC,?_⟩
   repeat (first|refine ag ?_|refine aK ?_|refine af ?_|refine aI ?_|refine au ?_|refine ah ?_|refine ae ?_|refine jK (by rfl) ?_|refine dZ ?_|refine cZ ?_)
   refine gV 32 [1,4] [4,5] (⟨[(4,.pref 0 [] 0),(5,.int .i64 1)],[(0,.optr [.osl 1 0 [],.osl 4 0 []])],1⟩:St) rfl rfl ?_
   refine ax ?_
   exact ⟨_,_,rfl,rfl,by rw [ht];rfl⟩
 ·rw [show okF fs al=false by simpa using ho1]
  have ht:uh fs ft al bl=(([],[]),1):=by unfold uh;rw [if_neg fun h=>ho1 h.1]
  refine ⟨bF,_,_,_,_,_,gq,(by decide),bC,?_⟩
  repeat (first|refine ag ?_|refine bV ?_|refine af ?_|refine aN ?_|refine au ?_|refine ah ?_|refine ae ?_|refine jK (by rfl) ?_|refine dZ ?_|refine cZ ?_)
  refine gV 32 [1,4] [4,5] (⟨[(4,.pref 0 [] 0),(5,.int .i64 1)],[(0,.optr [.osl 1 0 [],.osl 4 0 []])],1⟩:St) rfl rfl ?_
  refine ax ?_
  exact ⟨_,_,rfl,rfl,by rw [ht];rfl⟩
end Go.Proofs.Ytlbdmpjnmfmnfaa
