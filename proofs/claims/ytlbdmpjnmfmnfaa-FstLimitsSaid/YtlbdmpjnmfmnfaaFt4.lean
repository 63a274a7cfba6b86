import Derived.Test.YtlbdmpjnmfmnfaaFu3
import Derived.Test.YtlbdmpjnmfmnfaaFt7
import Derived.Test.YtlbdmpjnmfmnfaaFw1
section
set_option linter.unusedSimpArgs false
set_option linter.unusedVariables false
namespace Go.Proofs.Ytlbdmpjnmfmnfaa
open Go.RowKit Go.HL Go.FS
theorem P7 {al bl:List A} {fs ft:List Bool} {st:CS} (h1:okF fs al=true) (h2:okF ft bl=true) (hc:oG al bl=some st) (hl1:st.1.length<=2048) (hl2:st.2.length<=8192):okF (iw fs ft st.1) st.2=true:=by
 have hv:=yI hc
 obtain ⟨t,ht⟩:=hv.hd
 have hlen:(iw fs ft st.1).length=st.1.length:=by simp [iw]
 simp only [okF,Bool.and_eq_true,decide_eq_true_eq,List.all_eq_true]
 rw [hlen]
 refine ⟨⟨by rw [ht];simp,hl1,hl2⟩,fun c hc=>okA_iff.2 ?_⟩
 obtain ⟨j,hj,x,hx,hxm,rfl⟩:=hv.sub c hc
 have hi:=vM hxm
 have hb : -1<=x.1/\x.1<64 /\ -1<=x.2.1/\x.2.1<64:=by
  rcases mem_stps.1 hx with ⟨b,hb,_,rfl⟩|⟨a,ha,_,rfl⟩|⟨a,ha,b,hb,_,_,rfl⟩
  ·have:=fD h2 (mem_outA.1 hb).1;simp only;omega
  ·have:=fD h1 (mem_outA.1 ha).1;simp only;omega
  ·have:=fD h1 (mem_outA.1 ha).1;have:=fD h2 (mem_outA.1 hb).1;simp only;omega
 simp only
 omega
theorem Ic {al bl:List A} {fs ft:List Bool} (h1:okF fs al=true) (h2:okF ft bl=true) (hp:fs.length*ft.length<=2048) (hc:NZ al bl fs.length ft.length<=8192) :
  ∃F R,oq fs ft al bl=((F,R),0)/\okF F R=true/\F.length<=fs.length*ft.length/\R.length<=NZ al bl fs.length ft.length/\∀w v,Out F R w v <-> ∃m,Out fs al w m/\Out ft bl m v:=by
 obtain ⟨g1,_,_⟩:=gm h1
 obtain ⟨g2,_,_⟩:=gm h2
 obtain ⟨st,hst,hl1,hl2,hin⟩:=Ff (al:=al) (bl:=bl) (n:=fs.length) (m:=ft.length) (fun a ha=>by have:=fD h1 ha;omega) (fun b hb=>by have:=fD h2 hb;omega) (by omega) (by omega) hp hc
 refine ⟨iw fs ft st.1,st.2,?_,P7 h1 h2 hst (by omega) (by omega),by simpa [iw] using hl1,hl2,fun w v=>LU hst fun v hv=>⟨(hin v hv).1,(hin v hv).2.2.1⟩⟩
 unfold oq
 rw [if_pos ⟨h1,h2⟩,hst]
structure CA (ft:List Bool) (bl:List A) (l:List (List Int)) (i:Nat) (known:Bool) (all:List (List Int)):Prop where
 srt:Ze all
 kn:known=true->(∀j,j<i->(Gl ft bl (l.getD j []) 20).2=0)/\∀v,v∈all <-> ∃j,j<i/\v∈(Gl ft bl (l.getD j []) 20).1
 sht:∀u∈all,u.length<=10000000
theorem CA.start {ft:List Bool} {bl:List A} {l:List (List Int)}:CA ft bl l 0 true []:=⟨List.Pairwise.nil,fun _=>⟨fun j hj=>by omega,fun v=>by simp⟩,by simp⟩
theorem KL {x:List (List Int)}:∀ {k:Nat} {all:List (List Int)},k<=x.length->∀v,v∈(x.take k).foldl (fun a w=>AY w a) all <-> v∈all\/v∈x.take k:=by
 induction x with
 | nil=>intro k all hk v;simp
 | cons w x ih =>
  intro k all hk v
  cases k with
  | zero=>simp
  | succ k =>
   simp only [List.take_succ_cons,List.foldl_cons,List.mem_cons]
   rw [ih (by simpa using hk),mem_insW]
   constructor
   ·rintro ((h|h)|h)
    ·exact .inr (.inl h)
    ·exact .inl h
    ·exact .inr (.inr h)
   ·rintro (h|h|h)
    ·exact .inl (.inr h)
    ·exact .inl (.inl h)
    ·exact .inr h
def insL (x all:List (List Int)):List (List Int):=x.foldl (fun a w=>AY w a) all
theorem MF {x:List (List Int)}:∀ {all:List (List Int)},Ze all->Ze (insL x all):=by
 induction x with
 | nil=>intro all h;exact h
 | cons w x ih=>intro all h;exact ih (Ea h)
theorem mem_insL {x all:List (List Int)} {v:List Int}:v∈insL x all <-> v∈all\/v∈x:=by
 have:=KL (x:=x) (k:=x.length) (all:=all) (Nat.le_refl _) v
 rw [List.take_length] at this
 exact this
theorem CA.step {ft:List Bool} {bl:List A} {l:List (List Int)} {i:Nat} {known:Bool} {all:List (List Int)} (h:CA ft bl l i known all):CA ft bl l (i+1) (known&&decide ((Gl ft bl (l.getD i []) 20).2=0)) (insL (Gl ft bl (l.getD i []) 20).1 all):=by
 refine ⟨MF h.srt,fun hk=>?_,fun u hu=>?_⟩
 ·rw [Bool.and_eq_true,decide_eq_true_eq] at hk
  obtain ⟨h1,h2⟩:=h.kn hk.1
  refine ⟨fun j hj=>?_,fun v=>?_⟩
  ·by_cases e:j=i
   ·subst e;exact hk.2
   ·exact h1 j (by omega)
  ·rw [mem_insL,h2]
   constructor
   ·rintro (⟨j,hj,hv⟩|hv)
    ·exact ⟨j,by omega,hv⟩
    ·exact ⟨i,by omega,hv⟩
   ·rintro ⟨j,hj,hv⟩
    by_cases e:j=i
    ·subst e;exact .inr hv
    ·exact .inl ⟨j,by omega,hv⟩
 ·rcases mem_insL.1 hu with hu|hu
  ·exact h.sht u hu
  ·exact (Ql ft bl (l.getD i []) 20).2 u hu
end Go.Proofs.Ytlbdmpjnmfmnfaa
end
section
set_option linter.unusedSimpArgs false
set_option linter.unusedVariables false
namespace Go.Proofs.Ytlbdmpjnmfmnfaa
set_option linter.unusedSimpArgs false
set_option linter.unnecessarySimpa false
open Go.RowKit Go.HL Go.FS
abbrev em:Tn:=([true],[])
theorem GZ {p q:Tn} (hp:okF p.1 p.2=true) (hq:okF q.1 q.2=true) (h1:p.1.length+q.1.length<=2000) (h2:p.2.length+q.2.length<=6000):zX [p,q]=true:=by
 simp only [zX,List.all_cons,List.all_nil,Bool.and_true,Bool.and_eq_true,decide_eq_true_eq,yE,xZ,List.map_cons,List.map_nil,List.sum_cons,List.sum_nil,Nat.add_zero]
 exact ⟨⟨hp,hq⟩,h1,h2⟩
theorem PV {s t:Tn} (hs:okF s.1 s.2=true) (ht:okF t.1 t.2=true) (n m a b:Nat) (h1:s.1.length<=n) (h2:t.1.length<=m) (h3:s.2.length<=a) (h4:t.2.length<=b) (hp:n*m<=2048) (hc:n*b+(m*a+a*b)<=8192) :
  ∃x:Tn,oq s.1 t.1 s.2 t.2=(x,0)/\okF x.1 x.2=true/\x.1.length<=n*m/\x.2.length<=n*b+(m*a+a*b)/\∀w v,Out x.1 x.2 w v <-> ∃m,Out s.1 s.2 w m/\Out t.1 t.2 m v:=by
 have c1:=Nat.mul_le_mul h1 h2
 have c2:NZ s.2 t.2 s.1.length t.1.length<=n*b+(m*a+a*b):=by
  have a1:=Nat.mul_le_mul h1 h4
  have a2:=Nat.mul_le_mul h2 h3
  have a3:=Nat.mul_le_mul h3 h4
  unfold NZ;omega
 obtain ⟨F,R,e1,e2,e3,e4,e5⟩:=Ic hs ht (Nat.le_trans c1 hp) (Nat.le_trans c2 hc)
 exact ⟨(F,R),e1,e2,Nat.le_trans e3 c1,Nat.le_trans e4 c2,e5⟩
end Go.Proofs.Ytlbdmpjnmfmnfaa
end
section
set_option linter.unusedSimpArgs false
set_option linter.unusedVariables false
namespace Go.Proofs.Ytlbdmpjnmfmnfaa
open Go.RowKit Go.HL Go.FS
set_option maxHeartbeats 8000000 in
theorem sU (fs ft:List Bool) (al bl:List A) (hfs:fs.length<=9223372036854775807) (hal:al.length<=9223372036854775807) (hft:ft.length<=9223372036854775807) (hbl:bl.length<=9223372036854775807):HT Try.prog 21 [.agg (iF fs al),.agg (iF ft bl)] (fun r=>r=.tup [.agg (xU (oq fs ft al bl).1.1 (oq fs ft al bl).1.2),.int .i64 (oq fs ft al bl).2]):=by
 refine HT.ofC rfl Z8 [4,5] rfl (Nat.le_of_ble_eq_true rfl) ?_
 unfold c21
 have hv1:=jF fs al hfs hal
 have hv2:=jF ft bl hft hbl
 have hf1:=LZ fs al
 have hf2:=LZ ft bl
 simp only [aY,Nat.reduceAdd]
 simp only [iF,jJ] at hv1 hv2 hf1 hf2 ⊢
 repeat (first|refine ah ?_|refine af ?_|refine ak ?_|refine ae ?_|refine gq ?_|refine dX ?_|refine bI dZ ?_)
 refine bT bH dw (hv1) ?_
 rintro _ rfl
 by_cases ho1:okF fs al=true
 ·rw [ho1]
  refine ⟨bJ,_,_,_,_,_,gY,(by decide),bF,?_⟩
  repeat (first|refine ah ?_|refine aT ?_|refine iU (by rfl) ?_|refine gq ?_)
  refine bT bH dw (hv2) ?_
  rintro _ rfl
  by_cases ho2:okF ft bl=true
  ·rw [ho2]
   refine ⟨bJ,_,_,_,_,_,gY,(by decide),bF,?_⟩
   repeat (first|refine aT ?_|refine af ?_|refine aS ?_|refine au ?_|refine ak ?_|refine aI ?_|refine iU (by rfl) ?_)
   refine gJ bC bC (fun _ args r=>ZL args r) ?_
   repeat (first|refine gq ?_)
   refine jb bH dw (hf1 ho1) ⟨_,⟨fs,al,rfl,rfl⟩,by simp [HV.deep,wX]⟩ ?_
   rintro _ hr1 -
   obtain rfl:=JE hr1
   refine ⟨(by simp only [aX,yj,HV.refFree,eu,HV.noRd,HL.ints_noRd,HL.bools_noRd,Bool.or_true,Bool.true_or,Bool.or_false,Bool.false_or,Bool.and_true,Bool.true_and,Bool.and_self,List.isEmpty_nil,beq_self_eq_true,List.cons_append,List.nil_append]),_,_,_,_,_,gY,(by decide),bF,?_⟩
   repeat (first|refine gq ?_)
   refine jb bH dw (hf2 ho2) ⟨_,⟨ft,bl,rfl,rfl⟩,by simp [HV.deep,wX]⟩ ?_
   rintro _ hr2 -
   obtain rfl:=JE hr2
   refine ⟨(by simp only [aX,yj,HV.refFree,eu,HV.noRd,HL.ints_noRd,HL.bools_noRd,Bool.or_true,Bool.true_or,Bool.or_false,Bool.false_or,Bool.and_true,Bool.true_and,Bool.and_self,List.isEmpty_nil,beq_self_eq_true,List.cons_append,List.nil_append]),_,_,_,_,_,gY,(by decide),bF,?_⟩
   clear hr1 hr2 hv1 hv2 hf1 hf2
   have hl1:=iE (·.f) fs.length al
   have hl2:=iE (·.f) ft.length bl
   repeat (first|refine ah ?_|refine af ?_|refine ak ?_|refine ae ?_|refine lK (by rfl) aJ aO jh lS (by rfl) nC (by rfl) mV (by (try simp (disch:=omega) only [go_sem,reduceIte,Nat.reduceEqDiff,Nat.reduceAdd,Nat.reduceMul,xQ]);try rfl) aQ (by (try simp (disch:=omega) only [go_sem,xQ]);try rfl) aO jk ?_|refine cO ?_|refine bI dZ ?_|refine uC dZ ?_|refine qW (by rfl) aJ aJ lQ (by trivial) lQ (by exact eY rfl) ⟨rfl,rfl⟩ (by (try simp (disch:=omega) only [go_sem,reduceIte,Nat.reduceEqDiff,Nat.reduceAdd,Nat.reduceMul,xQ]);try rfl) aO jk ?_|refine bY ?_)
   refine Aq bH ?_
   repeat (first|refine ah ?_|refine af ?_|refine ak ?_|refine ae ?_|refine aK ?_)
   refine fJ 448 [1,4] [2,3,4,5,6,7,8,9,10,11,12] (⟨[(2,.pref 0 [] 0),(3,.pref 1 [] 0),(4,.pref 2 [] 0),(5,.int .i64 0),(6,.ref 3 [] 1 0 fs.length),(7,.ref 4 [] 1 0 ft.length),(8,.pref 5 [] 0),(9,.pref 6 [] 0),(10,.pref 7 [] 0),(11,.fn 65 [.pref 5 [] 0,.pref 6 [] 0,.pref 7 [] 0]),(12,.int .i64 0)],[(0,.optr [.sl fs.length (HL.bools fs),.sl al.length (recs aC al)]),(1,.optr [.sl ft.length (HL.bools ft),.sl bl.length (recs aC bl)]),(2,.optr [.nils,.nils]),(3,.osl 1 fs.length (fM (bD (·.f) fs.length al))),(4,.osl 1 ft.length (fM (bD (·.f) ft.length bl))),(5,jD [(0,0)]),(6,jB [(0,0)]),(7,je [] [])],8⟩:St) rfl rfl ?_
   refine bU 0 [2,3,4,5,6,7,8,9,10,11,12] ⟨[(2,.ptr (stripL [.sl fs.length (HL.bools fs),.sl al.length (recs aC al)]) 0),(3,.pref 0 [] 0),(4,.pref 1 [] 0),(5,.int .i64 0),(6,.ref 2 [] 1 0 fs.length),(7,.ref 3 [] 1 0 ft.length),(8,.pref 4 [] 0),(9,.pref 5 [] 0),(10,.pref 6 [] 0),(11,.fn 65 [.pref 4 [] 0,.pref 5 [] 0,.pref 6 [] 0]),(12,.int .i64 0)],[(0,.optr [.sl ft.length (HL.bools ft),.sl bl.length (recs aC bl)]),(1,.optr [.nils,.nils]),(2,.osl 1 fs.length (fM (bD (·.f) fs.length al))),(3,.osl 1 ft.length (fM (bD (·.f) ft.length bl))),(4,jD [(0,0)]),(5,jB [(0,0)]),(6,je [] [])],7⟩ rfl ?_
   rw [o7]
   refine bU 0 [2,3,4,5,6,7,8,9,10,11,12] ⟨[(2,.ptr [.sl fs.length (HL.bools fs),.sl al.length (recs aC al)] 0),(3,.ptr (stripL [.sl ft.length (HL.bools ft),.sl bl.length (recs aC bl)]) 0),(4,.pref 0 [] 0),(5,.int .i64 0),(6,.ref 1 [] 1 0 fs.length),(7,.ref 2 [] 1 0 ft.length),(8,.pref 3 [] 0),(9,.pref 4 [] 0),(10,.pref 5 [] 0),(11,.fn 65 [.pref 3 [] 0,.pref 4 [] 0,.pref 5 [] 0]),(12,.int .i64 0)],[(0,.optr [.nils,.nils]),(1,.osl 1 fs.length (fM (bD (·.f) fs.length al))),(2,.osl 1 ft.length (fM (bD (·.f) ft.length bl))),(3,jD [(0,0)]),(4,jB [(0,0)]),(5,je [] [])],6⟩ rfl ?_
   rw [o7 ft]
   have e1:stripL (win (fM (bD (·.f) fs.length al)) 0 (fs.length*1))=eU (bD (·.f) fs.length al):=by rw [iI _ (by rw [rJ,hl1,Nat.mul_one]),lG]
   have e2:stripL (win (fM (bD (·.f) ft.length bl)) 0 (ft.length*1))=eU (bD (·.f) ft.length bl):=by rw [iI _ (by rw [rJ,hl2,Nat.mul_one]),lG]
   refine bU 1 [2,3,4,5,6,7,8,9,10,11,12] ⟨[(2,.ptr [.sl fs.length (HL.bools fs),.sl al.length (recs aC al)] 0),(3,.ptr [.sl ft.length (HL.bools ft),.sl bl.length (recs aC bl)] 0),(4,.pref 0 [] 0),(5,.int .i64 0),(6,.sl fs.length (stripL (win (fM (bD (·.f) fs.length al)) 0 (fs.length*1)))),(7,.ref 1 [] 1 0 ft.length),(8,.pref 2 [] 0),(9,.pref 3 [] 0),(10,.pref 4 [] 0),(11,.fn 65 [.pref 2 [] 0,.pref 3 [] 0,.pref 4 [] 0]),(12,.int .i64 0)],[(0,.optr [.nils,.nils]),(1,.osl 1 ft.length (fM (bD (·.f) ft.length bl))),(2,jD [(0,0)]),(3,jB [(0,0)]),(4,je [] [])],5⟩ rfl ?_
   rw [e1]
   refine bU 1 [2,3,4,5,6,7,8,9,10,11,12] ⟨[(2,.ptr [.sl fs.length (HL.bools fs),.sl al.length (recs aC al)] 0),(3,.ptr [.sl ft.length (HL.bools ft),.sl bl.length (recs aC bl)] 0),(4,.pref 0 [] 0),(5,.int .i64 0),(6,.sl fs.length (eU (bD (·.f) fs.length al))),(7,.sl ft.length (stripL (win (fM (bD (·.f) ft.length bl)) 0 (ft.length*1)))),(8,.pref 1 [] 0),(9,.pref 2 [] 0),(10,.pref 3 [] 0),(11,.fn 65 [.pref 1 [] 0,.pref 2 [] 0,.pref 3 [] 0]),(12,.int .i64 0)],[(0,.optr [.nils,.nils]),(1,jD [(0,0)]),(2,jB [(0,0)]),(3,je [] [])],4⟩ rfl ?_
   rw [e2]
   clear e1 e2
   exact Jf fs ft al bl ho1 ho2
  ·rw [show okF ft bl=false by simpa using ho2]
   have ht:oq fs ft al bl=(([],[]),1):=by unfold oq;rw [if_neg fun h=>ho2 h.2]
   refine ⟨bJ,_,_,_,_,_,gY,(by decide),bF,?_⟩
   repeat (first|refine ah ?_|refine aT ?_|refine af ?_|refine aS ?_|refine ax ?_|refine ak ?_|refine ae ?_|refine jC (by rfl) ?_|refine dH ?_|refine bY ?_)
   refine fJ 32 [1,4] [4,5] (⟨[(4,.pref 0 [] 0),(5,.int .i64 1)],[(0,.optr [.osl 1 0 [],.osl 4 0 []])],1⟩:St) rfl rfl ?_
   refine ay ?_
   exact ⟨_,_,rfl,rfl,by rw [ht];rfl⟩
 ·rw [show okF fs al=false by simpa using ho1]
  have ht:oq fs ft al bl=(([],[]),1):=by unfold oq;rw [if_neg fun h=>ho1 h.1]
  refine ⟨bJ,_,_,_,_,_,gY,(by decide),bF,?_⟩
  repeat (first|refine ah ?_|refine dI ?_|refine af ?_|refine aU ?_|refine ax ?_|refine ak ?_|refine ae ?_|refine jC (by rfl) ?_|refine dH ?_|refine bY ?_)
  refine fJ 32 [1,4] [4,5] (⟨[(4,.pref 0 [] 0),(5,.int .i64 1)],[(0,.optr [.osl 1 0 [],.osl 4 0 []])],1⟩:St) rfl rfl ?_
  refine ay ?_
  exact ⟨_,_,rfl,rfl,by rw [ht];rfl⟩
end Go.Proofs.Ytlbdmpjnmfmnfaa
end
