import Derived.Test.YtlbdmpjnmfmnfaaFu3
import Derived.Test.YtlbdmpjnmfmnfaaFt7
import Derived.Test.YtlbdmpjnmfmnfaaFtZ
import Derived.Test.YtlbdmpjnmfmnfaaFw1
section
set_option linter.unusedSimpArgs false
set_option linter.unusedVariables false
namespace Go.Proofs.Ytlbdmpjnmfmnfaa
open Go.RowKit Go.HL Go.FS
theorem Weak.slotF {s:St} (t:Nat) (v:HV) (h:∀ (F:Nat->Prop) (h:Hp) (R:HV->Value->Prop) (rv:Value),OW F h R [aG t s.sl] [rv] []->OW F h R [v] [rv] []):Weak s ⟨(t,v)::s.sl,s.st,s.nx⟩:=by
 intro E a w ⟨loc,fp,hr⟩
 refine ⟨loc,fp,⟨hr.below,hr.base,hr.size,hr.tree,hr.gone,hr.new,hr.nodup,hr.apart,hr.fresh,fun t'=>?_,hr.defers⟩⟩
 show OW _ _ _ [aG t' (_::_)] _ _
 simp only [aG]
 by_cases e:t=t'
 ·subst e
  rw [if_pos rfl]
  exact h _ _ _ _ (hr.slots t)
 ·rw [if_neg e];exact hr.slots t'
theorem y7 {P:Program} {k:List HI} {Q:HE->St->Prop} {x:HCode} {sl st:List (Nat×HV)} {nx:Nat} (t:Nat) (l:List (List Int)) (ht:aG t sl=.sl l.length (wds l)) (h:hx P (.c x::k) Q ⟨(t,.sl l.length (gr l))::sl,st,nx⟩):hx P (.c x::k) Q ⟨sl,st,nx⟩ :=
 mZ (Weak.slotF (s:=⟨sl,st,nx⟩) t (.sl l.length (gr l)) (fun F hp R rv o=>by
  have:=Ju (show OW F hp R [.sl l.length (wds l)] [rv] [] by rw [<- ht];exact o)
  simpa only [List.map_cons,List.map_nil,dn1,Ut] using this)) h
theorem QF {al bl:List A} {fs ft:List Bool} {st:CS} (h1:okF fs al=true) (h2:okF ft bl=true) (hc:vI al bl=some st) (hl1:st.1.length<=2048) (hl2:st.2.length<=8192):okF (iK fs ft st.1) st.2=true:=by
 have hv:=yU hc
 obtain ⟨t,ht⟩:=hv.hd
 have hlen:(iK fs ft st.1).length=st.1.length:=by simp [iK]
 simp only [okF,Bool.and_eq_true,decide_eq_true_eq,List.all_eq_true]
 rw [hlen]
 refine ⟨⟨by rw [ht];simp,hl1,hl2⟩,fun c hc=>okA_iff.2 ?_⟩
 obtain ⟨j,hj,x,hx,hxm,rfl⟩:=hv.sub c hc
 have hi:=xg hxm
 have hb : -1<=x.1/\x.1<64 /\ -1<=x.2.1/\x.2.1<64:=by
  rcases mem_stps.1 hx with ⟨b,hb,_,rfl⟩|⟨a,ha,_,rfl⟩|⟨a,ha,b,hb,_,_,rfl⟩
  ·have:=dh h2 (mem_outA.1 hb).1;simp only;omega
  ·have:=dh h1 (mem_outA.1 ha).1;simp only;omega
  ·have:=dh h1 (mem_outA.1 ha).1;have:=dh h2 (mem_outA.1 hb).1;simp only;omega
 simp only
 omega
theorem J7 {al bl:List A} {fs ft:List Bool} (h1:okF fs al=true) (h2:okF ft bl=true) (hp:fs.length*ft.length<=2048) (hc:Qz al bl fs.length ft.length<=8192) :
  ∃F R,uh fs ft al bl=((F,R),0)/\okF F R=true/\F.length<=fs.length*ft.length/\R.length<=Qz al bl fs.length ft.length/\∀w v,Out F R w v <-> ∃m,Out fs al w m/\Out ft bl m v:=by
 obtain ⟨g1,_,_⟩:=dR h1
 obtain ⟨g2,_,_⟩:=dR h2
 obtain ⟨st,hst,hl1,hl2,hin⟩:=Gh (al:=al) (bl:=bl) (n:=fs.length) (m:=ft.length) (fun a ha=>by have:=dh h1 ha;omega) (fun b hb=>by have:=dh h2 hb;omega) (by omega) (by omega) hp hc
 refine ⟨iK fs ft st.1,st.2,?_,QF h1 h2 hst (by omega) (by omega),by simpa [iK] using hl1,hl2,fun w v=>Ou hst fun v hv=>⟨(hin v hv).1,(hin v hv).2.2.1⟩⟩
 unfold uh
 rw [if_pos ⟨h1,h2⟩,hst]
structure CA (ft:List Bool) (bl:List A) (l:List (List Int)) (i:Nat) (known:Bool) (all:List (List Int)):Prop where
 srt:Qy all
 kn:known=true->(∀j,j<i->(nK ft bl (l.getD j []) 20).2=0)/\∀v,v∈all <-> ∃j,j<i/\v∈(nK ft bl (l.getD j []) 20).1
 sht:∀u∈all,u.length<=10000000
theorem CA.start {ft:List Bool} {bl:List A} {l:List (List Int)}:CA ft bl l 0 true []:=⟨List.Pairwise.nil,fun _=>⟨fun j hj=>by omega,fun v=>by simp⟩,by simp⟩
theorem Pg {x:List (List Int)}:∀ {k:Nat} {all:List (List Int)},k<=x.length->∀v,v∈(x.take k).foldl (fun a w=>lm w a) all <-> v∈all\/v∈x.take k:=by
 induction x with
 | nil=>intro k all hk v;simp
 | cons w x ih =>
  intro k all hk v
  cases k with
  | zero=>simp
  | succ k =>
   simp only [List.take_succ_cons,List.foldl_cons,List.mem_cons]
   rw [ih (by simpa using hk),mem_insW]
   constructor
   ·rintro ((h|h)|h)
    ·exact .inr (.inl h)
    ·exact .inl h
    ·exact .inr (.inr h)
   ·rintro (h|h|h)
    ·exact .inl (.inr h)
    ·exact .inl (.inl h)
    ·exact .inr h
def insL (x all:List (List Int)):List (List Int):=x.foldl (fun a w=>lm w a) all
theorem KA {x all:List (List Int)} {k:Nat} (hk:k<x.length):insL (x.take (k+1)) all=lm (x.getD k []) (insL (x.take k) all):=by
 unfold insL
 rw [dw hk,List.foldl_append];rfl
theorem EN {x:List (List Int)}:∀ {all:List (List Int)},Qy all->Qy (insL x all):=by
 induction x with
 | nil=>intro all h;exact h
 | cons w x ih=>intro all h;exact ih (DW h)
theorem Fe {x:List (List Int)}:∀ {all:List (List Int)},(insL x all).length<=all.length+x.length:=by
 induction x with
 | nil=>intro all;simp [insL]
 | cons w x ih =>
  intro all
  have:=ih (all:=lm w all)
  have h2:=Fq w all
  show (insL x (lm w all)).length<=_
  simp only [List.length_cons];omega
theorem mem_insL {x all:List (List Int)} {v:List Int}:v∈insL x all <-> v∈all\/v∈x:=by
 have:=Pg (x:=x) (k:=x.length) (all:=all) (Nat.le_refl _) v
 rw [List.take_length] at this
 exact this
theorem CA.step {ft:List Bool} {bl:List A} {l:List (List Int)} {i:Nat} {known:Bool} {all:List (List Int)} (h:CA ft bl l i known all):CA ft bl l (i+1) (known&&decide ((nK ft bl (l.getD i []) 20).2=0)) (insL (nK ft bl (l.getD i []) 20).1 all):=by
 refine ⟨EN h.srt,fun hk=>?_,fun u hu=>?_⟩
 ·rw [Bool.and_eq_true,decide_eq_true_eq] at hk
  obtain ⟨h1,h2⟩:=h.kn hk.1
  refine ⟨fun j hj=>?_,fun v=>?_⟩
  ·by_cases e:j=i
   ·subst e;exact hk.2
   ·exact h1 j (by omega)
  ·rw [mem_insL,h2]
   constructor
   ·rintro (⟨j,hj,hv⟩|hv)
    ·exact ⟨j,by omega,hv⟩
    ·exact ⟨i,by omega,hv⟩
   ·rintro ⟨j,hj,hv⟩
    by_cases e:j=i
    ·subst e;exact .inr hv
    ·exact .inl ⟨j,by omega,hv⟩
 ·rcases mem_insL.1 hu with hu|hu
  ·exact h.sht u hu
  ·exact (vH ft bl (l.getD i []) 20).2 u hu
end Go.Proofs.Ytlbdmpjnmfmnfaa
end
section
set_option linter.unusedSimpArgs false
set_option linter.unusedVariables false
namespace Go.Proofs.Ytlbdmpjnmfmnfaa
set_option linter.unusedSimpArgs false
set_option linter.unnecessarySimpa false
open Go.RowKit Go.HL Go.FS
def qV (x y:Tn):Prop:=∀w v,Out x.1 x.2 w v <-> Out y.1 y.2 w v
theorem TM {x y:Tn} (hx:okF x.1 x.2=true) (hy:okF y.1 y.2=true) (h:qV x y) {w:List Int} (hw:w.length<=1024):nK x.1 x.2 w 12=nK y.1 y.2 w 12 :=
 KD ⟨hx,by omega,by omega,hw⟩ ⟨hy,by omega,by omega,hw⟩ (h w)
abbrev em:Tn:=([true],[])
theorem Oz:okF em.1 em.2=true:=by decide
theorem em_out {w v:List Int}:Out em.1 em.2 w v <-> w=[]/\v=[]:=by
 rw [out_tr]
 constructor
 ·rintro ⟨r,h,_⟩
  generalize (0:Int)=c at h
  cases h with
  | nil=>exact ⟨rfl,rfl⟩
  | step ha=>cases ha
 ·rintro ⟨rfl,rfl⟩;exact ⟨0,.nil,by omega,rfl⟩
theorem qh {p q:Tn} (hp:okF p.1 p.2=true) (hq:okF q.1 q.2=true) (h1:p.1.length+q.1.length<=2000) (h2:p.2.length+q.2.length<=6000):pU [p,q]=true:=by
 simp only [pU,List.all_cons,List.all_nil,Bool.and_true,Bool.and_eq_true,decide_eq_true_eq,xN,xO,List.map_cons,List.map_nil,List.sum_cons,List.sum_nil,Nat.add_zero]
 exact ⟨⟨hp,hq⟩,h1,h2⟩
theorem JQ {p:Tn} (hp:okF p.1 p.2=true) (h1:p.1.length<=2000) (h2:p.2.length<=6000):pU [p]=true:=by
 simp only [pU,List.all_cons,List.all_nil,Bool.and_true,Bool.and_eq_true,decide_eq_true_eq,xN,xO,List.map_cons,List.map_nil,List.sum_cons,List.sum_nil,Nat.add_zero]
 exact ⟨hp,h1,h2⟩
theorem RZ {p:Tn} (h:pU [p,em]=true):qV (jg p em) p:=fun w v=>by
 rw [Ed h]
 constructor
 ·rintro ⟨w1,w2,v1,v2,rfl,rfl,h1,h2⟩
  obtain ⟨rfl,rfl⟩:=em_out.1 h2
  simpa using h1
 ·intro h1;exact ⟨w,[],v,[],by simp,by simp,h1,em_out.2 ⟨rfl,rfl⟩⟩
theorem SL {p:Tn} (h:pU [em,p]=true):qV (jg em p) p:=fun w v=>by
 rw [Ed h]
 constructor
 ·rintro ⟨w1,w2,v1,v2,rfl,rfl,h1,h2⟩
  obtain ⟨rfl,rfl⟩:=em_out.1 h1
  simpa using h2
 ·intro h1;exact ⟨[],w,[],v,by simp,by simp,em_out.2 ⟨rfl,rfl⟩,h1⟩
theorem KQ {p:Tn} (h:pU [p]=true) (h2:pU [iF p]=true):qV (iF (iF p)) (iF p):=fun w v=>by
 rw [yO h2,KH (fun u v=>yO h),S9,yO h]
theorem uf {s t:Tn} (hs:okF s.1 s.2=true) (ht:okF t.1 t.2=true) (n m a b:Nat) (h1:s.1.length<=n) (h2:t.1.length<=m) (h3:s.2.length<=a) (h4:t.2.length<=b) (hp:n*m<=2048) (hc:n*b+(m*a+a*b)<=8192) :
  ∃x:Tn,uh s.1 t.1 s.2 t.2=(x,0)/\okF x.1 x.2=true/\x.1.length<=n*m/\x.2.length<=n*b+(m*a+a*b)/\∀w v,Out x.1 x.2 w v <-> ∃m,Out s.1 s.2 w m/\Out t.1 t.2 m v:=by
 have c1:=Nat.mul_le_mul h1 h2
 have c2:Qz s.2 t.2 s.1.length t.1.length<=n*b+(m*a+a*b):=by
  have a1:=Nat.mul_le_mul h1 h4
  have a2:=Nat.mul_le_mul h2 h3
  have a3:=Nat.mul_le_mul h3 h4
  unfold Qz;omega
 obtain ⟨F,R,e1,e2,e3,e4,e5⟩:=J7 hs ht (Nat.le_trans c1 hp) (Nat.le_trans c2 hc)
 exact ⟨(F,R),e1,e2,Nat.le_trans e3 c1,Nat.le_trans e4 c2,e5⟩
theorem Tz {s t:Tn} (h:pU [s,t]=true) {w:List Int} (hw:w.length<=1024) (h1:(nK s.1 s.2 w 20).2=0) (h2:(nK t.1 t.2 w 20).2=0):nK (Bi s t).1 (Bi s t).2 w 64=(insL (nK t.1 t.2 w 20).1 (nK s.1 s.2 w 20).1,0):=by
 obtain ⟨hs,ht,_,_⟩:=Ho h
 obtain ⟨h3,h4⟩:=Cf h1
 obtain ⟨h5,h6⟩:=Cf h2
 have hok:=(IG h).1
 have l1:((nK s.1 s.2 w 20).1.length:Int)<=20:=by obtain ⟨_,_,_,h⟩:=h4;exact h
 have l2:((nK t.1 t.2 w 20).1.length:Int)<=20:=by obtain ⟨_,_,_,h⟩:=h6;exact h
 have l3:=Fe (x:=(nK t.1 t.2 w 20).1) (all:=(nK s.1 s.2 w 20).1)
 refine BF ⟨hok,by omega,by omega,hw⟩ (Rz (tH hok) (EN (SQ (tH hs) h4)) (fun v=>?_) (by omega))
 rw [mem_insL,Jp h1,Jp h2,Il h]
end Go.Proofs.Ytlbdmpjnmfmnfaa
end
section
set_option linter.unusedSimpArgs false
set_option linter.unusedVariables false
namespace Go.Proofs.Ytlbdmpjnmfmnfaa
open Go.RowKit Go.HL Go.FS
set_option maxHeartbeats 8000000 in
theorem kK (fs ft:List Bool) (al bl:List A) (hfs:fs.length<=9223372036854775807) (hal:al.length<=9223372036854775807) (hft:ft.length<=9223372036854775807) (hbl:bl.length<=9223372036854775807):HT Try.prog 21 [.agg (iC fs al),.agg (iC ft bl)] (fun r=>r=.tup [.agg (zB (uh fs ft al bl).1.1 (uh fs ft al bl).1.2),.int .i64 (uh fs ft al bl).2]):=by
 refine HT.ofC rfl adW [4,5] rfl (Nat.le_of_ble_eq_true rfl) ?_
 unfold c21
 have hv1:=o9 fs al hfs hal
 have hv2:=o9 ft bl hft hbl
 have hf1:=Qp fs al
 have hf2:=Qp ft bl
 simp only [aY,Nat.reduceAdd]
 simp only [iC,jX] at hv1 hv2 hf1 hf2 ⊢
 repeat (first|refine ah ?_|refine af ?_|refine ak ?_|refine ae ?_|refine fJ ?_|refine dU ?_|refine bP eH ?_)
 refine bY bz bW (hv1) ?_
 rintro _ rfl
 by_cases ho1:okF fs al=true
 ·rw [ho1]
  refine ⟨bG,_,_,_,_,_,fU,(by decide),bu,?_⟩
  repeat (first|refine ah ?_|refine aK ?_|refine gW (by rfl) ?_|refine fJ ?_)
  refine bY bz bW (hv2) ?_
  rintro _ rfl
  by_cases ho2:okF ft bl=true
  ·rw [ho2]
   refine ⟨bG,_,_,_,_,_,fU,(by decide),bu,?_⟩
   repeat (first|refine aK ?_|refine af ?_|refine aO ?_|refine au ?_|refine ak ?_|refine aF ?_|refine gW (by rfl) ?_)
   refine gu aT aT (fun _ args r=>frD args r) ?_
   repeat (first|refine fJ ?_)
   refine dO bz bW (hf1 ho1) ⟨_,⟨fs,al,rfl,rfl⟩,by simp [HV.deep,zF]⟩ ?_
   rintro _ hr1 -
   obtain rfl:=Nz hr1
   refine ⟨(by simp only [bD,yl,HV.refFree,fZ,HV.noRd,HL.ints_noRd,HL.bools_noRd,Bool.or_true,Bool.true_or,Bool.or_false,Bool.false_or,Bool.and_true,Bool.true_and,Bool.and_self,List.isEmpty_nil,beq_self_eq_true,List.cons_append,List.nil_append]),_,_,_,_,_,fU,(by decide),bu,?_⟩
   repeat (first|refine fJ ?_)
   refine dO bz bW (hf2 ho2) ⟨_,⟨ft,bl,rfl,rfl⟩,by simp [HV.deep,zF]⟩ ?_
   rintro _ hr2 -
   obtain rfl:=Nz hr2
   refine ⟨(by simp only [bD,yl,HV.refFree,fZ,HV.noRd,HL.ints_noRd,HL.bools_noRd,Bool.or_true,Bool.true_or,Bool.or_false,Bool.false_or,Bool.and_true,Bool.true_and,Bool.and_self,List.isEmpty_nil,beq_self_eq_true,List.cons_append,List.nil_append]),_,_,_,_,_,fU,(by decide),bu,?_⟩
   clear hr1 hr2 hv1 hv2 hf1 hf2
   have hl1:=iY (·.f) fs.length al
   have hl2:=iY (·.f) ft.length bl
   repeat (first|refine ah ?_|refine af ?_|refine ak ?_|refine ae ?_|refine lY (by rfl) aV aP jG mD (by rfl) mO (by rfl) mV (by (try simp (disch:=omega) only [go_sem,reduceIte,Nat.reduceEqDiff,Nat.reduceAdd,Nat.reduceMul,yY]);try rfl) aW (by (try simp (disch:=omega) only [go_sem,yY]);try rfl) aP jM ?_|refine bQ ?_|refine bP eH ?_|refine vJ eH ?_|refine qR (by rfl) aV aV mJ (by trivial) mJ (by exact eY rfl) ⟨rfl,rfl⟩ (by (try simp (disch:=omega) only [go_sem,reduceIte,Nat.reduceEqDiff,Nat.reduceAdd,Nat.reduceMul,yY]);try rfl) aP jM ?_|refine di ?_)
   refine wG bz ?_
   repeat (first|refine ah ?_|refine af ?_|refine ak ?_|refine ae ?_|refine aB ?_)
   refine fD 448 [1,4] [2,3,4,5,6,7,8,9,10,11,12] (⟨[(2,.pref 0 [] 0),(3,.pref 1 [] 0),(4,.pref 2 [] 0),(5,.int .i64 0),(6,.ref 3 [] 1 0 fs.length),(7,.ref 4 [] 1 0 ft.length),(8,.pref 5 [] 0),(9,.pref 6 [] 0),(10,.pref 7 [] 0),(11,.fn 65 [.pref 5 [] 0,.pref 6 [] 0,.pref 7 [] 0]),(12,.int .i64 0)],[(0,.optr [.sl fs.length (HL.bools fs),.sl al.length (recs aC al)]),(1,.optr [.sl ft.length (HL.bools ft),.sl bl.length (recs aC bl)]),(2,.optr [.nils,.nils]),(3,.osl 1 fs.length (gp (bT (·.f) fs.length al))),(4,.osl 1 ft.length (gp (bT (·.f) ft.length bl))),(5,jY [(0,0)]),(6,ku [(0,0)]),(7,jO [] [])],8⟩:St) rfl rfl ?_
   refine bg 0 [2,3,4,5,6,7,8,9,10,11,12] ⟨[(2,.ptr (stripL [.sl fs.length (HL.bools fs),.sl al.length (recs aC al)]) 0),(3,.pref 0 [] 0),(4,.pref 1 [] 0),(5,.int .i64 0),(6,.ref 2 [] 1 0 fs.length),(7,.ref 3 [] 1 0 ft.length),(8,.pref 4 [] 0),(9,.pref 5 [] 0),(10,.pref 6 [] 0),(11,.fn 65 [.pref 4 [] 0,.pref 5 [] 0,.pref 6 [] 0]),(12,.int .i64 0)],[(0,.optr [.sl ft.length (HL.bools ft),.sl bl.length (recs aC bl)]),(1,.optr [.nils,.nils]),(2,.osl 1 fs.length (gp (bT (·.f) fs.length al))),(3,.osl 1 ft.length (gp (bT (·.f) ft.length bl))),(4,jY [(0,0)]),(5,ku [(0,0)]),(6,jO [] [])],7⟩ rfl ?_
   rw [lN]
   refine bg 0 [2,3,4,5,6,7,8,9,10,11,12] ⟨[(2,.ptr [.sl fs.length (HL.bools fs),.sl al.length (recs aC al)] 0),(3,.ptr (stripL [.sl ft.length (HL.bools ft),.sl bl.length (recs aC bl)]) 0),(4,.pref 0 [] 0),(5,.int .i64 0),(6,.ref 1 [] 1 0 fs.length),(7,.ref 2 [] 1 0 ft.length),(8,.pref 3 [] 0),(9,.pref 4 [] 0),(10,.pref 5 [] 0),(11,.fn 65 [.pref 3 [] 0,.pref 4 [] 0,.pref 5 [] 0]),(12,.int .i64 0)],[(0,.optr [.nils,.nils]),(1,.osl 1 fs.length (gp (bT (·.f) fs.length al))),(2,.osl 1 ft.length (gp (bT (·.f) ft.length bl))),(3,jY [(0,0)]),(4,ku [(0,0)]),(5,jO [] [])],6⟩ rfl ?_
   rw [lN ft]
   have e1:stripL (win (gp (bT (·.f) fs.length al)) 0 (fs.length*1))=fO (bT (·.f) fs.length al):=by rw [jc _ (by rw [sV,hl1,Nat.mul_one]),lZ]
   have e2:stripL (win (gp (bT (·.f) ft.length bl)) 0 (ft.length*1))=fO (bT (·.f) ft.length bl):=by rw [jc _ (by rw [sV,hl2,Nat.mul_one]),lZ]
   refine bg 1 [2,3,4,5,6,7,8,9,10,11,12] ⟨[(2,.ptr [.sl fs.length (HL.bools fs),.sl al.length (recs aC al)] 0),(3,.ptr [.sl ft.length (HL.bools ft),.sl bl.length (recs aC bl)] 0),(4,.pref 0 [] 0),(5,.int .i64 0),(6,.sl fs.length (stripL (win (gp (bT (·.f) fs.length al)) 0 (fs.length*1)))),(7,.ref 1 [] 1 0 ft.length),(8,.pref 2 [] 0),(9,.pref 3 [] 0),(10,.pref 4 [] 0),(11,.fn 65 [.pref 2 [] 0,.pref 3 [] 0,.pref 4 [] 0]),(12,.int .i64 0)],[(0,.optr [.nils,.nils]),(1,.osl 1 ft.length (gp (bT (·.f) ft.length bl))),(2,jY [(0,0)]),(3,ku [(0,0)]),(4,jO [] [])],5⟩ rfl ?_
   rw [e1]
   refine bg 1 [2,3,4,5,6,7,8,9,10,11,12] ⟨[(2,.ptr [.sl fs.length (HL.bools fs),.sl al.length (recs aC al)] 0),(3,.ptr [.sl ft.length (HL.bools ft),.sl bl.length (recs aC bl)] 0),(4,.pref 0 [] 0),(5,.int .i64 0),(6,.sl fs.length (fO (bT (·.f) fs.length al))),(7,.sl ft.length (stripL (win (gp (bT (·.f) ft.length bl)) 0 (ft.length*1)))),(8,.pref 1 [] 0),(9,.pref 2 [] 0),(10,.pref 3 [] 0),(11,.fn 65 [.pref 1 [] 0,.pref 2 [] 0,.pref 3 [] 0]),(12,.int .i64 0)],[(0,.optr [.nils,.nils]),(1,jY [(0,0)]),(2,ku [(0,0)]),(3,jO [] [])],4⟩ rfl ?_
   rw [e2]
   clear e1 e2
   exact KP fs ft al bl ho1 ho2
  ·rw [show okF ft bl=false by simpa using ho2]
   have ht:uh fs ft al bl=(([],[]),1):=by unfold uh;rw [if_neg fun h=>ho2 h.2]
   refine ⟨bG,_,_,_,_,_,fU,(by decide),bu,?_⟩
   repeat (first|refine ah ?_|refine aK ?_|refine af ?_|refine aO ?_|refine ax ?_|refine ak ?_|refine ae ?_|refine iI (by rfl) ?_|refine cO ?_|refine di ?_)
   refine fD 32 [1,4] [4,5] (⟨[(4,.pref 0 [] 0),(5,.int .i64 1)],[(0,.optr [.osl 1 0 [],.osl 4 0 []])],1⟩:St) rfl rfl ?_
   refine ay ?_
   exact ⟨_,_,rfl,rfl,by rw [ht];rfl⟩
 ·rw [show okF fs al=false by simpa using ho1]
  have ht:uh fs ft al bl=(([],[]),1):=by unfold uh;rw [if_neg fun h=>ho1 h.1]
  refine ⟨bG,_,_,_,_,_,fU,(by decide),bu,?_⟩
  repeat (first|refine ah ?_|refine dH ?_|refine af ?_|refine aS ?_|refine ax ?_|refine ak ?_|refine ae ?_|refine iI (by rfl) ?_|refine cO ?_|refine di ?_)
  refine fD 32 [1,4] [4,5] (⟨[(4,.pref 0 [] 0),(5,.int .i64 1)],[(0,.optr [.osl 1 0 [],.osl 4 0 []])],1⟩:St) rfl rfl ?_
  refine ay ?_
  exact ⟨_,_,rfl,rfl,by rw [ht];rfl⟩
end Go.Proofs.Ytlbdmpjnmfmnfaa
end
