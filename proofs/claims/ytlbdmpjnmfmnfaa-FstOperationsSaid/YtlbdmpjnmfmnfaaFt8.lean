import Derived.Test.YtlbdmpjnmfmnfaaFt3
import Derived.Test.YtlbdmpjnmfmnfaaFt7
import Derived.Test.YtlbdmpjnmfmnfaaFt2
import Derived.Test.YtlbdmpjnmfmnfaaFsB
import Derived.Test.YtlbdmpjnmfmnfaaFt1
import Derived.Test.YtlbdmpjnmfmnfaaHlLg
import Derived.Test.YtlbdmpjnmfmnfaaFsZ
set_option linter.unusedSimpArgs false
set_option linter.unusedVariables false
set_option linter.unnecessarySimpa false
set_option maxHeartbeats 8000000
section
namespace Go.Proofs.Ytlbdmpjnmfmnfaa
open Go.RowKit Go.HL Go.FS
structure CA (ft:List Bool) (bl:List A) (l:List (List Int)) (i:Nat) (known:Bool) (all:List (List Int)):Prop where
 srt:Srt all
 kn:known=true->(∀j,j<i->(IC ft bl (l.getD j []) 20).2=0)/\∀v,v∈all <-> ∃j,j<i/\v∈(IC ft bl (l.getD j []) 20).1
 sht:∀u∈all,u.length<=10000000
theorem CA.start {ft:List Bool} {bl:List A} {l:List (List Int)}:CA ft bl l 0 true []:=⟨List.Pairwise.nil,fun _=>⟨fun j hj=>by omega,fun v=>by simp⟩,by simp⟩
theorem Yv {x:List (List Int)}:∀ {k:Nat} {all:List (List Int)},k<=x.length->∀v,v∈(x.take k).foldl (fun a w=>KZ w a) all <-> v∈all\/v∈x.take k:=by
 induction x with
 | nil=>intro k all hk v;simp
 | cons w x ih =>
  intro k all hk v
  cases k with
  | zero=>simp
  | succ k =>
   simp only [List.take_succ_cons,List.foldl_cons,zl011]
   rw [ih (by simpa using hk),mem_insW]
   constructor
   ·rintro ((h|h)|h)
    ·exact .inr (.inl h)
    ·exact .inl h
    ·exact .inr (.inr h)
   ·rintro (h|h|h)
    ·exact .inl (.inr h)
    ·exact .inl (.inl h)
    ·exact .inr h
def insL (x all:List (List Int)):List (List Int):=x.foldl (fun a w=>KZ w a) all
theorem X0 {x:List (List Int)}:∀ {all:List (List Int)},Srt all->Srt (insL x all):=by
 induction x with
 | nil=>intro all h;exact h
 | cons w x ih=>intro all h;exact ih (PU h)
theorem mem_insL {x all:List (List Int)} {v:List Int}:v∈insL x all <-> v∈all\/v∈x:=by
 have:=Yv (x:=x) (k:=x.length) (all:=all) (bg _) v
 rw [fK] at this
 exact this
theorem CA.step {ft:List Bool} {bl:List A} {l:List (List Int)} {i:Nat} {known:Bool} {all:List (List Int)} (h:CA ft bl l i known all):CA ft bl l (i+1) (known&&decide ((IC ft bl (l.getD i []) 20).2=0)) (insL (IC ft bl (l.getD i []) 20).1 all):=by
 refine ⟨X0 h.srt,fun hk=>?_,fun u hu=>?_⟩
 ·rw [bC,decide_eq_true_eq] at hk
  obtain ⟨h1,h2⟩:=h.kn hk.1
  refine ⟨fun j hj=>?_,fun v=>?_⟩
  ·by_cases e:j=i
   ·subst e;exact hk.2
   ·exact h1 j (by omega)
  ·rw [mem_insL,h2]
   constructor
   ·rintro (⟨j,hj,hv⟩|hv)
    ·exact ⟨j,by omega,hv⟩
    ·exact ⟨i,by omega,hv⟩
   ·rintro ⟨j,hj,hv⟩
    by_cases e:j=i
    ·subst e;exact .inr hv
    ·exact .inl ⟨j,by omega,hv⟩
 ·rcases mem_insL.1 hu with hu|hu
  ·exact h.sht u hu
  ·exact (Sl ft bl (l.getD i []) 20).2 u hu
abbrev em:Tn:=([true],[])
theorem F6 (fs ft:List Bool) (al bl:List A) (hfs:fs.length<=9223372036854775807) (hal:al.length<=9223372036854775807) (hft:ft.length<=9223372036854775807) (hbl:bl.length<=9223372036854775807):HT Try.prog 21 [.agg (dE fs al),.agg (dE ft bl)] (fun r=>r=.tup [.agg (EQ (pK fs ft al bl).1.1 (pK fs ft al bl).1.2),.int .i64 (pK fs ft al bl).2]):=by
 refine HT.ofC rfl af6 [4,5] rfl (aZ rfl) ?_
 unfold c21
 have hv1:=yH fs al hfs hal
 have hv2:=yH ft bl hft hbl
 have hf1:=WR fs al
 have hf2:=WR ft bl
 simp only [aA,Nat.reduceAdd]
 simp only [dE,fB] at hv1 hv2 hf1 hf2 ⊢
 refine zF ⟨?_⟩
 refine aF ay aK (hv1) ?_
 rintro _ rfl
 by_cases ho1:okF fs al=true
 ·rw [ho1]
  refine zG ⟨?_⟩
  refine zF ⟨?_⟩
  refine aF ay aK (hv2) ?_
  rintro _ rfl
  by_cases ho2:okF ft bl=true
  ·rw [ho2]
   refine zG ⟨?_⟩
   refine zF ⟨?_⟩
   refine bG ah ah (fun _ args r=>frD args r) ?_
   refine zF ⟨?_⟩
   refine bI ay aK (hf1 ho1) ⟨_,⟨fs,al,rfl,rfl⟩,by simp [HV.deep,Gu]⟩ ?_
   rintro _ hr1 -
   obtain rfl:=WZ hr1
   refine ⟨(by simp only [aJ,wY,HV.refFree,dm,HV.noRd,HL.ints_noRd,HL.bools_noRd,dR,mZ,lX,l9,kE,Bool.and_true,jf,Bool.and_self,mQ,beq_self_eq_true,List.cons_append,List.nil_append]),_,_,_,_,_,zT,(by decide),lH,?_⟩
   refine zF ⟨?_⟩
   refine bI ay aK (hf2 ho2) ⟨_,⟨ft,bl,rfl,rfl⟩,by simp [HV.deep,Gu]⟩ ?_
   rintro _ hr2 -
   obtain rfl:=WZ hr2
   refine ⟨(by simp only [aJ,wY,HV.refFree,dm,HV.noRd,HL.ints_noRd,HL.bools_noRd,dR,mZ,lX,l9,kE,Bool.and_true,jf,Bool.and_self,mQ,beq_self_eq_true,List.cons_append,List.nil_append]),_,_,_,_,_,zT,(by decide),lH,?_⟩
   clear hr1 hr2 hv1 hv2 hf1 hf2
   have hl1:=dD (·.f) fs.length al
   have hl2:=dD (·.f) ft.length bl
   refine eH @Xo ⟨?_⟩
   refine yu ay ?_
   refine zF ⟨?_⟩
   refine aX 448 [1,4] [2,3,4,5,6,7,8,9,10,11,12] (⟨[(2,.pref 0 [] 0),(3,.pref 1 [] 0),(4,.pref 2 [] 0),(5,.int .i64 0),(6,.ref 3 [] 1 0 fs.length),(7,.ref 4 [] 1 0 ft.length),(8,.pref 5 [] 0),(9,.pref 6 [] 0),(10,.pref 7 [] 0),(11,.fn 65 [.pref 5 [] 0,.pref 6 [] 0,.pref 7 [] 0]),(12,.int .i64 0)],[(0,.optr [.sl fs.length (HL.bools fs),.sl al.length (recs aC al)]),(1,.optr [.sl ft.length (HL.bools ft),.sl bl.length (recs aC bl)]),(2,.optr [.nils,.nils]),(3,.osl 1 fs.length (dw (aG (·.f) fs.length al))),(4,.osl 1 ft.length (dw (aG (·.f) ft.length bl))),(5,ng [(0,0)]),(6,ni [(0,0)]),(7,lU [] [])],8⟩:St) rfl rfl ?_
   refine az 0 [2,3,4,5,6,7,8,9,10,11,12] ⟨[(2,.ptr (stripL [.sl fs.length (HL.bools fs),.sl al.length (recs aC al)]) 0),(3,.pref 0 [] 0),(4,.pref 1 [] 0),(5,.int .i64 0),(6,.ref 2 [] 1 0 fs.length),(7,.ref 3 [] 1 0 ft.length),(8,.pref 4 [] 0),(9,.pref 5 [] 0),(10,.pref 6 [] 0),(11,.fn 65 [.pref 4 [] 0,.pref 5 [] 0,.pref 6 [] 0]),(12,.int .i64 0)],[(0,.optr [.sl ft.length (HL.bools ft),.sl bl.length (recs aC bl)]),(1,.optr [.nils,.nils]),(2,.osl 1 fs.length (dw (aG (·.f) fs.length al))),(3,.osl 1 ft.length (dw (aG (·.f) ft.length bl))),(4,ng [(0,0)]),(5,ni [(0,0)]),(6,lU [] [])],7⟩ rfl ?_
   rw [gu]
   refine az 0 [2,3,4,5,6,7,8,9,10,11,12] ⟨[(2,.ptr [.sl fs.length (HL.bools fs),.sl al.length (recs aC al)] 0),(3,.ptr (stripL [.sl ft.length (HL.bools ft),.sl bl.length (recs aC bl)]) 0),(4,.pref 0 [] 0),(5,.int .i64 0),(6,.ref 1 [] 1 0 fs.length),(7,.ref 2 [] 1 0 ft.length),(8,.pref 3 [] 0),(9,.pref 4 [] 0),(10,.pref 5 [] 0),(11,.fn 65 [.pref 3 [] 0,.pref 4 [] 0,.pref 5 [] 0]),(12,.int .i64 0)],[(0,.optr [.nils,.nils]),(1,.osl 1 fs.length (dw (aG (·.f) fs.length al))),(2,.osl 1 ft.length (dw (aG (·.f) ft.length bl))),(3,ng [(0,0)]),(4,ni [(0,0)]),(5,lU [] [])],6⟩ rfl ?_
   rw [gu ft]
   have e1:stripL (win (dw (aG (·.f) fs.length al)) 0 (fs.length*1))=bF (aG (·.f) fs.length al):=by rw [eG _ (by rw [qw,hl1,Nat.mul_one]),ku]
   have e2:stripL (win (dw (aG (·.f) ft.length bl)) 0 (ft.length*1))=bF (aG (·.f) ft.length bl):=by rw [eG _ (by rw [qw,hl2,Nat.mul_one]),ku]
   refine az 1 [2,3,4,5,6,7,8,9,10,11,12] ⟨[(2,.ptr [.sl fs.length (HL.bools fs),.sl al.length (recs aC al)] 0),(3,.ptr [.sl ft.length (HL.bools ft),.sl bl.length (recs aC bl)] 0),(4,.pref 0 [] 0),(5,.int .i64 0),(6,.sl fs.length (stripL (win (dw (aG (·.f) fs.length al)) 0 (fs.length*1)))),(7,.ref 1 [] 1 0 ft.length),(8,.pref 2 [] 0),(9,.pref 3 [] 0),(10,.pref 4 [] 0),(11,.fn 65 [.pref 2 [] 0,.pref 3 [] 0,.pref 4 [] 0]),(12,.int .i64 0)],[(0,.optr [.nils,.nils]),(1,.osl 1 ft.length (dw (aG (·.f) ft.length bl))),(2,ng [(0,0)]),(3,ni [(0,0)]),(4,lU [] [])],5⟩ rfl ?_
   rw [e1]
   refine az 1 [2,3,4,5,6,7,8,9,10,11,12] ⟨[(2,.ptr [.sl fs.length (HL.bools fs),.sl al.length (recs aC al)] 0),(3,.ptr [.sl ft.length (HL.bools ft),.sl bl.length (recs aC bl)] 0),(4,.pref 0 [] 0),(5,.int .i64 0),(6,.sl fs.length (bF (aG (·.f) fs.length al))),(7,.sl ft.length (stripL (win (dw (aG (·.f) ft.length bl)) 0 (ft.length*1)))),(8,.pref 1 [] 0),(9,.pref 2 [] 0),(10,.pref 3 [] 0),(11,.fn 65 [.pref 1 [] 0,.pref 2 [] 0,.pref 3 [] 0]),(12,.int .i64 0)],[(0,.optr [.nils,.nils]),(1,ng [(0,0)]),(2,ni [(0,0)]),(3,lU [] [])],4⟩ rfl ?_
   rw [e2]
   clear e1 e2
   exact Ut fs ft al bl ho1 ho2
  ·rw [show okF ft bl=false by simpa using ho2]
   have ht:pK fs ft al bl=(([],[]),1):=by unfold pK;rw [if_neg fun h=>ho2 h.2]
   refine zG ⟨?_⟩
   refine zF ⟨?_⟩
   refine aX 32 [1,4] [4,5] (⟨[(4,.pref 0 [] 0),(5,.int .i64 1)],[(0,.optr [.osl 1 0 [],.osl 4 0 []])],1⟩:St) rfl rfl ?_
   refine ae ?_
   exact ⟨_,_,rfl,rfl,by rw [ht];rfl⟩
 ·rw [show okF fs al=false by simpa using ho1]
  have ht:pK fs ft al bl=(([],[]),1):=by unfold pK;rw [if_neg fun h=>ho1 h.1]
  refine zG ⟨?_⟩
  refine zF ⟨?_⟩
  refine aX 32 [1,4] [4,5] (⟨[(4,.pref 0 [] 0),(5,.int .i64 1)],[(0,.optr [.osl 1 0 [],.osl 4 0 []])],1⟩:St) rfl rfl ?_
  refine ae ?_
  exact ⟨_,_,rfl,rfl,by rw [ht];rfl⟩
end Go.Proofs.Ytlbdmpjnmfmnfaa
end
section
namespace Go.FS
def exA:List A:=[⟨0,0,1,0⟩,⟨0,0,-1,0⟩]
def exB:List A:=[⟨0,1,0,0⟩,⟨0,-1,0,0⟩]
def exF:List Bool:=[false,false,true]
def exC:List A:=[⟨0,0,2,1⟩,⟨0,0,-1,0⟩,⟨1,-1,2,2⟩,⟨1,0,-1,1⟩,⟨2,0,-1,2⟩]
theorem ex1:WV [true] exA [0,0] 5=some [[],[1],[1,1]]:=by decide +kernel
theorem ex2:WV exF exC [0,0] 7=some [[2,2]]:=by decide +kernel
theorem ex3 (n:Nat):At [true] exB [1] (List.replicate n 0) (0,0):=by
 have hg1:Good [true] exB [1] (0,1):=.fin (p:=0) ⟨by decide,rfl⟩
 have hm:Mv exB [1] (0,0) 0 (0,0):=.eps (a:=⟨0,-1,0,0⟩) (x:=(0,0)) (by simp [exB]) rfl rfl
 have hg:Good [true] exB [1] (0,0):=.mv (.sym (a:=⟨0,1,0,0⟩) (x:=(0,0)) (by simp [exB]) rfl (by decide) (by decide) (by decide) rfl) hg1
 induction n with
 | zero=>exact .nil hg
 | succ n ih=>rw [List.replicate_succ'];exact .sym ih hm (by decide) hg
theorem okB:Eb exB:=fun a ha=>by simp only [exB,List.mem_cons,List.not_mem_nil,or_false] at ha;rcases ha with rfl|rfl<;>decide
theorem aei:Eb exA:=fun a ha=>by simp only [exA,List.mem_cons,List.not_mem_nil,or_false] at ha;rcases ha with rfl|rfl<;>decide
theorem okC:Eb exC:=fun a ha=>by simp only [exC,List.mem_cons,List.not_mem_nil,or_false] at ha;rcases ha with rfl|rfl|rfl|rfl|rfl<;>decide
theorem ex4 (most:Int) (l:List (List Int)):¬ Lst [true] exB [1] most l:=by
 rintro ⟨n,h,_⟩
 have:=(qI okB (n:=n)).2 ⟨⟨_,ex3 n⟩,by simp⟩
 rw [h] at this;cases this
end Go.FS
namespace Go.Proofs.Ytlbdmpjnmfmnfaa
open Go.RowKit Go.HL Go.FS
theorem jb (l:List A):dm (recs aC l)=true:=by
 induction l with
 | nil=>rfl
 | cons a l ih=>simpa [recs,aC,dm,HV.noRd] using ih
theorem QG:HT Try.prog 63 [] (fun r=>r=.agg (dE [true] exA)):=by
 refine HT.ofC rfl afH [0] rfl (aZ rfl) ?_
 unfold c63
 simp only [aA,Nat.reduceAdd]
 refine zF ⟨?_⟩
 refine bQ 0 [0] ⟨[(0,.pref 0 [] 0)],[(0,.optr [.sl 1 [.bool true],.sl 2 (recs aC exA)])],1⟩ rfl rfl ?_
 refine ae ?_
 exact ⟨_,_,rfl,rfl,rfl⟩
theorem TQ {fin:List Bool} {al:List A} {w:List Int} {most:Int} {r:HV} {k:Nat} {l:List (List Int)} (hk:Eb al) (ho:Ej fin al w most) (h:WV fin al w k=some l) (hm:(l.length:Int)<=most) (hr:Tq fin al w most r):r=.tup [.osl 1 l.length (wds l),.int .i64 0]:=by
 unfold Tq at hr
 rw [if_pos ho] at hr
 have h1:=Tf h hm
 rcases hr with ⟨l',h2,rfl⟩|⟨h2,_⟩
 ·rw [h2.uniq hk h1]
 ·exact absurd h1 (h2 l)
theorem TM {fin:List Bool} {al:List A} {w:List Int} {most:Int} {r:HV} (ho:Ej fin al w most) (h:∀l,¬ Lst fin al w most l) (hr:Tq fin al w most r):r=.tup [.osl 1 0 [],.int .i64 4]:=by
 unfold Tq at hr
 rw [if_pos ho] at hr
 rcases hr with ⟨l',h2,_⟩|⟨_,h2⟩
 ·exact absurd h2 (h l')
 ·exact h2
def exV:List Bool:=[false,false,true]
def exW:List A:=[⟨0,1,2,1⟩,⟨1,-1,2,2⟩]
theorem ex7:FC [1] [2,2]=(exV,exW):=by decide +kernel
theorem ex5:pK [true] exV exA exW=((exF,exC),0):=by decide +kernel
theorem ex6:Dx [true] exA=([true],exB):=by decide +kernel
theorem ZH {w:List Int} {most:Int} {fin:List Bool} {al:List A} (h:okF fin al=true) (h1:1<=most) (h2:most<=64) (h3:w.length<=1024):Ej fin al w most:=⟨h,h1,h2,h3⟩
theorem Gj:HT Try.prog 20 [] (fun r=>r=.bool true):=by
 refine HT.of rfl afS (aZ rfl) ?_
 unfold c20
 have hiv:=JR [true] exA (by decide) (by decide)
 have hwd:=FZ [1] [2,2] (by decide) (by decide)
 have hcm:=F6 [true] exV exA exW (by decide +kernel) (by decide) (by decide +kernel) (by decide +kernel)
 rw [ex5] at hcm
 rw [ex7] at hwd
 rw [ex6] at hiv
 have hex:=QG
 have hap:=fun (fin:List Bool) (al:List A) (w:List Int) (most:Int)=>V7 fin al w most
 have k1:=fun r=>TQ (r:=r) (most:=3) aei (ZH (by decide +kernel) (by decide) (by decide) (by decide)) ex1 (by decide)
 have k2:=fun r=>TM (r:=r) (most:=2) (ZH (by decide +kernel) (by decide) (by decide) (by decide)) (acU aei (Tf ex1 (most:=3) (by decide)) (by decide))
 have k3:=fun r=>TM (r:=r) (most:=64) (ZH (by decide +kernel) (by decide) (by decide) (by decide)) (ex4 64)
 have k4:=fun r=>TQ (r:=r) (most:=9) okC (ZH (by decide +kernel) (by decide) (by decide) (by decide)) ex2 (by decide)
 have h1:=(hap [true] exA [0,0] 3 (by decide) (by decide) (by decide)).mono k1
 have h2:=(hap [true] exA [0,0] 2 (by decide) (by decide) (by decide)).mono k2
 have h3:=(hap [true] exB [1] 64 (by decide) (by decide) (by decide)).mono k3
 have h4:=(hap exF exC [0,0] 9 (by decide) (by decide) (by decide)).mono k4
 simp only [aA,Nat.reduceAdd]
 have w1:=wS [[],[1],[1,1]] [[],[1],[1,1]] (by decide) (by decide) (by decide) (by decide)
 have w2:=wS [[2,2]] [[2,2]] (by decide) (by decide) (by decide) (by decide)
 refine zF ⟨?_⟩
 refine aF ay aK (hex) ?_
 rintro _ rfl
 simp only [dE,fB] at h1 h2 h3 h4 hiv hcm ⊢
 refine zG ⟨?_⟩
 refine zQ ⟨?_⟩
 refine az 32 [0,1] ⟨[(0,.bool false),(1,.ptr [.sl 1 (HL.bools [true]),.sl exA.length (recs aC exA)] 0)],[],0⟩ rfl ?_
 refine aH ?_
 refine wJ 2 (by rfl) ?_
 simp only [List.take_succ_cons,List.take_zero,List.drop_succ_cons,List.drop_zero]
 refine zQ ⟨?_⟩
 refine az 16 [0,1,15,16] ⟨[(0,.bool false),(1,.ptr [.sl 1 (HL.bools [true]),.sl exA.length (recs aC exA)] 0),(15,.agg [.sl 1 (HL.bools [true]),.sl exA.length (recs aC exA)]),(16,.sl 2 [.int .i64 0,.int .i64 0])],[],0⟩ rfl ?_
 refine au ?_
 refine aF ay aK (h1) ?_
 rintro _ rfl
 refine zG ⟨?_⟩
 refine zQ ⟨?_⟩
 refine aY [0,1,2,3] ⟨[(0,.bool false),(1,.ptr [.sl 1 (HL.bools [true]),.sl exA.length (recs aC exA)] 0),(2,.ref 0 [] 1 0 3),(3,.int .i64 0)],[(0,.osl 1 3 (wds [[],[1],[1,1]]))],1⟩ rfl ?_
 refine aH ?_
 refine wJ 2 (by rfl) ?_
 simp only [List.take_succ_cons,List.take_zero,List.drop_succ_cons,List.drop_zero]
 refine zQ ⟨?_⟩
 refine az 17 [0,1,2,3,21,22] ⟨[(0,.bool false),(1,.ptr [.sl 1 (HL.bools [true]),.sl exA.length (recs aC exA)] 0),(2,.ref 0 [] 1 0 3),(3,.int .i64 0),(21,.agg [.sl 1 (HL.bools [true]),.sl exA.length (recs aC exA)]),(22,.sl 2 [.int .i64 0,.int .i64 0])],[(0,.osl 1 3 (wds [[],[1],[1,1]]))],1⟩ rfl ?_
 refine au ?_
 refine aF ay aK (h2) ?_
 rintro _ rfl
 refine zG ⟨?_⟩
 refine zQ ⟨?_⟩
 refine aY [0,1,2,3,5] ⟨[(0,.bool false),(1,.ptr [.sl 1 (HL.bools [true]),.sl exA.length (recs aC exA)] 0),(2,.ref 0 [] 1 0 3),(3,.int .i64 0),(5,.int .i64 4)],[(0,.osl 1 3 (wds [[],[1],[1,1]]))],1⟩ rfl ?_
 refine aH ?_
 refine wJ 3 (by rfl) ?_
 simp only [List.take_succ_cons,List.take_zero,List.drop_succ_cons,List.drop_zero]
 refine zQ ⟨?_⟩
 refine aF ay aK (hiv) ?_
 rintro _ rfl
 refine zG ⟨?_⟩
 refine zQ ⟨?_⟩
 refine az 33 [0,1,2,3,5,28,29] ⟨[(0,.bool false),(1,.ptr [.sl 1 (HL.bools [true]),.sl exA.length (recs aC exA)] 0),(2,.ref 0 [] 1 0 3),(3,.int .i64 0),(5,.int .i64 4),(28,.agg [.sl [true].length (HL.bools [true]),.sl exB.length (recs aC exB)]),(29,.sl 1 [.int .i64 1])],[(0,.osl 1 3 (wds [[],[1],[1,1]]))],1⟩ rfl ?_
 refine au ?_
 refine aF ay aK (h3) ?_
 rintro _ rfl
 refine zG ⟨?_⟩
 refine zQ ⟨?_⟩
 refine aY [0,1,2,3,5,7] ⟨[(0,.bool false),(1,.ptr [.sl 1 (HL.bools [true]),.sl exA.length (recs aC exA)] 0),(2,.ref 0 [] 1 0 3),(3,.int .i64 0),(5,.int .i64 4),(7,.int .i64 4)],[(0,.osl 1 3 (wds [[],[1],[1,1]]))],1⟩ rfl ?_
 refine aH ?_
 refine Ye [1] [] ah ah (fun f _ r=>if f=32 then r=.agg (EQ exV exW) else r=.tup [.agg (EQ exF exC),.int .i64 0]) (by simp [ax,HV.deep,aO,bJ,bP]) (by simp) ?_
 refine zF ⟨?_⟩
 refine bI ay aK hwd ⟨_,rfl,rfl⟩ ?_
 rintro _ rfl -
 simp only [EQ]
 refine ⟨(by simp only [aJ,jb,HV.refFree,dm,HV.noRd,HL.ints_noRd,HL.bools_noRd,dR,mZ,lX,l9,kE,Bool.and_true,jf,Bool.and_self,mQ,beq_self_eq_true,List.cons_append,List.nil_append]),_,_,_,_,_,zT,(by decide),lH,?_⟩
 refine zF ⟨?_⟩
 refine bI ay aK hcm ⟨_,rfl,rfl⟩ ?_
 rintro _ rfl -
 refine ⟨(by simp only [aJ,jb,HV.refFree,dm,HV.noRd,HL.ints_noRd,HL.bools_noRd,dR,mZ,lX,l9,kE,Bool.and_true,jf,Bool.and_self,mQ,beq_self_eq_true,List.cons_append,List.nil_append]),_,_,_,_,_,zT,(by decide),lH,?_⟩
 refine zQ ⟨?_⟩
 refine az 129 [0,2,3,5,7,8,9] ⟨[(0,.bool false),(2,.ref 0 [] 1 0 3),(3,.int .i64 0),(5,.int .i64 4),(7,.int .i64 4),(8,.ptr [.sl exF.length (HL.bools exF),.sl exC.length (recs aC exC)] 0),(9,.int .i64 0)],[(0,.osl 1 3 (wds [[],[1],[1,1]]))],1⟩ rfl ?_
 refine aH ?_
 refine wJ 2 (by rfl) ?_
 simp only [List.take_succ_cons,List.take_zero,List.drop_succ_cons,List.drop_zero]
 refine zQ ⟨?_⟩
 refine az 17 [0,2,3,5,7,8,9,42,43] ⟨[(0,.bool false),(2,.ref 0 [] 1 0 3),(3,.int .i64 0),(5,.int .i64 4),(7,.int .i64 4),(8,.ptr [.sl exF.length (HL.bools exF),.sl exC.length (recs aC exC)] 0),(9,.int .i64 0),(42,.agg [.sl exF.length (HL.bools exF),.sl exC.length (recs aC exC)]),(43,.sl 2 [.int .i64 0,.int .i64 0])],[(0,.osl 1 3 (wds [[],[1],[1,1]]))],1⟩ rfl ?_
 refine au ?_
 refine aF ay aK (h4) ?_
 rintro _ rfl
 refine zG ⟨?_⟩
 refine zQ ⟨?_⟩
 refine aY [0,2,3,5,7,9,10,11] ⟨[(0,.bool false),(2,.ref 0 [] 1 0 3),(3,.int .i64 0),(5,.int .i64 4),(7,.int .i64 4),(9,.int .i64 0),(10,.ref 1 [] 1 0 1),(11,.int .i64 0)],[(0,.osl 1 3 (wds [[],[1],[1,1]])),(1,.osl 1 1 (wds [[2,2]]))],2⟩ rfl ?_
 refine zF ⟨?_⟩
 refine aF ay aK (w1) ?_
 rintro _ rfl
 refine zG ⟨?_⟩
 refine zF ⟨?_⟩
 refine aF ay aK (w2) ?_
 rintro _ rfl
 refine zG ⟨?_⟩
 refine zF ⟨?_⟩
 refine ae ?_
 rfl
end Go.Proofs.Ytlbdmpjnmfmnfaa
end
