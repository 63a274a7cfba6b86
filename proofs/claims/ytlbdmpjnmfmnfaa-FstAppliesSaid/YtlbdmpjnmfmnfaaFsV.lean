import Derived.Test.YtlbdmpjnmfmnfaaFsU
import Derived.Test.YtlbdmpjnmfmnfaaFsG
set_option linter.unusedSimpArgs false
set_option linter.unusedVariables false
namespace Go.Proofs.Ytlbdmpjnmfmnfaa
open Go.RowKit Go.HL Go.FS
section
variable {fin:List Bool} {al:List A} {w:List Int} {G:List Nd}
structure BI (fin:List Bool) (al:List A) (w:List Int) (S:List Nd) (s:Int) (i:Nat) (T:List Nd):Prop where
 sub:∀y∈T,By fin al w (·∈S) s y
 cl:∀j,j<i->∀y,Mv al w (S.getD j default) s y->FS.Good fin al w y->y∈T
structure BJ (fin:List Bool) (al:List A) (w:List Int) (G S:List Nd) (s:Int) (i:Nat) (v:Nd) (R:List A) (k:Nat) (T:List Nd):Prop where
 bi:BI fin al w S s i T
 row:∀a∈R.take k,a.o=s->∀y,iy w G a v.2=(y,true)->y∈T
theorem BI.start {S:List Nd} {s:Int}:BI fin al w S s 0 []:=⟨by simp,fun j hj=>by omega⟩
theorem BI.begin {S:List Nd} {s:Int} {i:Nat} {v:Nd} {R:List A} {T:List Nd} (h:BI fin al w S s i T):BJ fin al w G S s i v R 0 T:=⟨h,by simp⟩
theorem BJ.skip {S:List Nd} {s:Int} {i k:Nat} {v:Nd} {R:List A} {T:List Nd} (h:BJ fin al w G S s i v R k T) (hk:k<R.length) (hs:(R.getD k default).o=s->∀y,iy w G (R.getD k default) v.2=(y,true)->False):BJ fin al w G S s i v R (k+1) T:=by
 refine ⟨h.bi,fun a ha ho y hy=>?_⟩
 rw [dE hk] at ha
 rcases List.mem_append.1 ha with ha|ha
 ·exact h.row a ha ho y hy
 ·simp only [List.mem_singleton] at ha;subst ha;exact (hs ho y hy).elim
theorem BJ.add (hG:∀x,x∈G <-> FS.Good fin al w x) {S:List Nd} {s:Int} {i k:Nat} {v:Nd} {R:List A} {T:List Nd} (hR:R=al.filter fun a=>a.f==v.1) (h0:0<=v.2) (hv:v∈S) (h:BJ fin al w G S s i v R k T) (hk:k<R.length) {y:Nd} (ho:(R.getD k default).o=s) (hy:iy w G (R.getD k default) v.2=(y,true)):BJ fin al w G S s i v R (k+1) (T++[y]):=by
 have hmem:R.getD k default∈al/\(R.getD k default).f=v.1:=by
  have:=gU hk
  generalize R.getD k default=a at this
  rw [hR] at this
  simpa using this
 have hm:=(qP hG (x:=v) (y:=y) (o:=s) h0).2 ⟨_,hmem.1,hmem.2,ho,hy⟩
 refine ⟨⟨fun z hz=>?_,fun j hj z hz hg=>by simp [h.bi.cl j hj z hz hg]⟩,fun a ha hoa z hz=>?_⟩
 ·rcases List.mem_append.1 hz with hz|hz
  ·exact h.bi.sub z hz
  ·simp only [List.mem_singleton] at hz;subst hz;exact ⟨v,hv,hm.1,hm.2⟩
 ·rw [dE hk] at ha
  rcases List.mem_append.1 ha with ha|ha
  ·simp [h.row a ha hoa z hz]
  ·simp only [List.mem_singleton] at ha
   subst ha
   rw [hy] at hz
   simp only [Prod.mk.injEq,and_true] at hz
   simp [hz]
theorem BJ.done (hG:∀x,x∈G <-> FS.Good fin al w x) {S:List Nd} {s:Int} {i:Nat} {v:Nd} {R:List A} {T:List Nd} (hat:S.getD i default=v) (hR:R=al.filter fun a=>a.f==v.1) (h0:0<=v.2) (h:BJ fin al w G S s i v R R.length T):BI fin al w S s (i+1) T:=by
 refine ⟨h.bi.sub,fun j hj y hm hg=>?_⟩
 by_cases e:j=i
 ·subst e
  rw [hat] at hm
  obtain ⟨a,ha,hf,ho,hy⟩:=(qP hG (x:=v) (y:=y) (o:=s) h0).1 ⟨hm,hg⟩
  refine h.row a ?_ ho y hy
  rw [List.take_length,hR]
  simp [ha,hf]
 ·exact h.bi.cl j (by omega) y hm hg
theorem BI.done {S:List Nd} {s:Int} {i:Nat} {T:List Nd} (h:BI fin al w S s i T) (hi:S.length<=i) (y:Nd):y∈T <-> By fin al w (·∈S) s y:=by
 refine ⟨h.sub y,fun ⟨x,hx,hm,hg⟩=>?_⟩
 obtain ⟨j,hj,he⟩:=List.getElem_of_mem hx
 refine h.cl j (by omega) y ?_ hg
 rw [List.getD_eq_getElem?_getD,List.getElem?_eq_getElem hj];simpa [he] using hm
end
set_option maxHeartbeats 8000000 in
theorem Jk (fin:List Bool) (al:List A) (w:List Int) (G S:List Nd) (gb:List Bool) (s:Int) (hs0:0<=s) (hv:okF fin al=true) (hw:w.length<=1024) (hG:∀x,x∈G <-> FS.Good fin al w x) (hb:GB fin.length w G gb) (hS:∀x∈S,FS.Good fin al w x) (hSl:S.length<=4198400) :
  HT Try.prog 61 [.agg (wY w (bn (·.f) fin.length al) gb),.sl S.length (oq w S),.int .i64 s] (fun r=>∃L,r=.osl 1 L.length (oq w L)/\(∀x,x∈L <-> Cl fin al w (By fin al w (·∈S) s) x)/\L.Nodup):=by
 obtain ⟨h1,h2,h3⟩:=iF hv
 have hin:∀a∈al,0<=a.f/\a.f<fin.length:=fun a ha=>by have:=fE hv ha;omega
 have hgb:=kN (n:=fin.length) (w:=w) h2 hw
 have hfl:=fJ (·.f) fin.length al
 have hrf:∀i:Nat,i<fin.length->(bn (·.f) fin.length al).getD i []=al.filter fun a=>a.f==(i:Int):=fun i hi=>jh _ _ hi
 have hwide:=fun T=>AU fin al w G T gb hv hw hG hb
 generalize hLF:bn (·.f) fin.length al=LF at hfl hrf hwide
 obtain ⟨N,hN⟩:∃N,fin.length*(w.length+1)=N:=⟨_,rfl⟩
 have hgl:=hb.len
 rw [hN] at hgl hgb
 have hSi:∀x∈S,rP fin.length w x:=fun x hx=>jd hin (hS x hx)
 refine HT.of rfl abo (Nat.le_of_ble_eq_true rfl) ?_
 unfold c61
 simp only [aX,Nat.reduceAdd,wY,hgl] at hwide ⊢
 repeat (first|refine ah ?_|refine aS ?_|refine af ?_|refine bf ?_|refine aB ?_|refine au ?_|refine ae ?_|refine aA ?_|refine aZ ?_|refine aF ?_|refine di ?_)
 refine bQ [1,2,3,7,8,9] (fun t:Nat×List Nd=>t.1<=S.length/\BI fin al w S s t.1 t.2/\t.2.length<=t.1*al.length)
  (fun t=>⟨[(1,.sl S.length (oq w S)),(2,.int .i64 s),(3,.pref 0 [] 0),(7,.int .i64 ((w.length:Int)+1)),(8,.ref 1 [] 1 0 t.2.length),(9,.int .i64 t.1)],[(0,.optr [.sl w.length (HL.ints w),.sl LF.length (dL LF),.sl N (HL.bools gb)]),(1,.osl 1 t.2.length (oq w t.2))],2⟩)
  (fun t=>S.length - t.1) (0,[]) ⟨by simp,.start,by simp⟩ rfl ?_
 rintro ⟨i,T⟩ ⟨hi0,hbi,hTl⟩
 simp only at hi0 hbi hTl ⊢
 have hib:i*al.length<=34393292800:=Nat.le_trans (Nat.mul_le_mul (show i<=4198400 by omega) h3) (by decide)
 by_cases hi:i<S.length
 ·have hvm:S.getD i default∈S:=by rw [List.getD_eq_getElem?_getD,List.getElem?_eq_getElem hi];exact List.getElem_mem _
  have hvi:=hSi _ hvm
  have hdiv:=uZ hvi
  have hmod:=uX hvi
  have hrow:=hrf (S.getD i default).1.toNat (by have:=hvi.2.1;have:=hvi.1;omega)
  rw [show (((S.getD i default).1.toNat:Nat):Int)=(S.getD i default).1 by have:=hvi.1;omega] at hrow
  generalize hve:S.getD i default=v at hrow hvi hdiv hmod hvm
  have hbj:=hbi.begin (G:=G) (v:=v) (R:=LF.getD v.1.toNat [])
  generalize hR:LF.getD v.1.toNat []=R at hrow hbj
  have hrl:R.length<=al.length:=by rw [hrow];exact List.length_filter_le _ _
  have hcv:=ng hvi
  rw [hN] at hcv
  obtain ⟨g1,g2,g3,g4⟩:=hvi
  repeat (first|refine ah ?_|refine af ?_|refine ay ?_|refine aB ?_|refine ak ?_|refine au ?_|refine ae ?_|refine aA ?_|refine aH ?_)
  refine dG bu bu (fun _ _ _=>False) ?_
  repeat (first|refine ah ?_|refine aJ ?_|refine dA (by rfl) aG (by (try simp (disch:=omega) only [go_sem,hve,hdiv,hR]);try rfl) ?_|refine dK (by rfl) aW (by (try simp (disch:=omega) only [go_sem,reduceIte,Nat.reduceEqDiff,Nat.reduceAdd,Nat.reduceMul,hve,hdiv,hR]);try rfl) aG (by (try simp (disch:=omega) only [go_sem,hve,hdiv,hR]);try rfl) aQ ?_|refine af ?_|refine au ?_|refine ae ?_|refine aA ?_|refine sZ (by rfl) (by rfl) (by omega) (by (try simp (disch:=omega) only [go_sem,Int.reduceAdd,Int.reduceSub,Int.reduceMul,hve,hdiv,hR]);try rfl) ?_|refine aF ?_)
  refine bQ [1,2,3,7,8,9,10,11] (fun t:Nat×List Nd=>t.1<=R.length/\BJ fin al w G S s i v R t.1 t.2/\t.2.length<=i*al.length+t.1)
   (fun t=>⟨[(1,.sl S.length (oq w S)),(2,.int .i64 s),(3,.pref 0 [] 0),(7,.int .i64 ((w.length:Int)+1)),(8,.ref 1 [] 1 0 t.2.length),(9,.int .i64 i),(10,.sl R.length (recs aC R)),(11,.int .i64 t.1)],[(0,.optr [.sl w.length (HL.ints w),.sl LF.length (dL LF),.sl N (HL.bools gb)]),(1,.osl 1 t.2.length (oq w t.2))],2⟩)
   (fun t=>R.length - t.1) (0,T) ⟨by simp,hbj,by simp;omega⟩ rfl ?_
  rintro ⟨k,T⟩ ⟨hkk,hbj,hTl⟩
  simp only at hkk hbj hTl ⊢
  by_cases hkl:k<R.length
  ·have ham:R.getD k default∈al:=by
    have:=gU hkl
    rw [hrow] at this ⊢
    exact (List.mem_filter.1 this).1
   have ha:=fE hv ham
   have hnx:=Dl fin.length w LF G gb (R.getD k default) v.2 g3 hw g4 h2 ⟨ha.2.2.1,ha.2.2.2.1⟩ hb
   have hsk:=hbj.skip hkl
   have had:=fun y=>hbj.add hG hrow g3 hvm hkl (y:=y)
   obtain ⟨y,b,hy⟩:∃y b,iy w G (R.getD k default) v.2=(y,b):=⟨_,_,rfl⟩
   have hnr:nO w G (R.getD k default) v.2=if b then cd w.length y else -1:=by simp only [nO,hy]
   rw [hy] at hsk had
   rw [hnr] at hnx
   simp only [wY,aC,hgl] at hnx
   cases b with
   | false =>
    simp only [Bool.false_eq_true,if_false] at hnx
    repeat (first|refine ah ?_|refine af ?_|refine ay ?_|refine aB ?_|refine ak ?_|refine au ?_|refine ae ?_|refine aA ?_|refine aH ?_)
    refine dG bu bu (fun _ _ r=>r=.int .i64 (-1)) ?_
    repeat (first|refine ah ?_|refine aJ ?_|refine dA (by rfl) aG (by (try simp (disch:=omega) only [go_sem,hve,hmod]);try rfl) ?_|refine mG (by rfl) (by rfl) (by omega) (by (try simp (disch:=omega) only [go_sem,Int.reduceAdd,Int.reduceSub,Int.reduceMul,hve,hmod]);try rfl) ?_|refine gB (by rfl) aG (by (try simp (disch:=omega) only [go_sem,reduceIte,Nat.reduceEqDiff,Nat.reduceAdd,Nat.reduceMul,hve,hmod]);try rfl) ?_|refine iE (by rfl) aW aI aG (by decide) (by (try simp (disch:=omega) only [go_sem,reduceIte,Nat.reduceEqDiff,Nat.reduceAdd,Nat.reduceMul,hve,hmod]);try rfl) fH ?_)
    refine fD bW dm hnx ⟨_,rfl,rfl⟩ ?_
    rintro _ rfl -
    refine ⟨cO,_,_,_,_,_,gY,(by decide),bT,?_⟩
    repeat (first|refine ah ?_|refine cu ?_|refine af ?_|refine aN ?_|refine bf ?_|refine ax ?_|refine au ?_|refine ae ?_|refine dH ?_|refine aH ?_|refine dh ?_)
    exact bZ [1,2,3,7,8,9,10,11] (k+1,T) ⟨hkl,hsk (fun _ _ h=>by simp at h),by simp only;omega⟩ dW rfl
   | true =>
    simp only [if_true] at hnx
    have hyi:=jd hin ((hG y).1 (yR hy))
    have hyc:=ng hyi
    rw [hN] at hyc
    by_cases ho:(R.getD k default).o=s
    ·have hll:(T++[y]).length=T.length+1:=by simp
     repeat (first|refine ah ?_|refine af ?_|refine ay ?_|refine aB ?_|refine ak ?_|refine au ?_|refine ae ?_|refine aA ?_|refine aH ?_)
     refine dG bu bu (fun _ _ r=>r=.int .i64 (cd w.length y)) ?_
     repeat (first|refine ah ?_|refine aJ ?_|refine dA (by rfl) aG (by (try simp (disch:=omega) only [go_sem,hve,hmod]);try rfl) ?_|refine mG (by rfl) (by rfl) (by omega) (by (try simp (disch:=omega) only [go_sem,Int.reduceAdd,Int.reduceSub,Int.reduceMul,hve,hmod]);try rfl) ?_|refine gB (by rfl) aG (by (try simp (disch:=omega) only [go_sem,reduceIte,Nat.reduceEqDiff,Nat.reduceAdd,Nat.reduceMul,hve,hmod]);try rfl) ?_|refine iE (by rfl) aW aI aG (by decide) (by (try simp (disch:=omega) only [go_sem,reduceIte,Nat.reduceEqDiff,Nat.reduceAdd,Nat.reduceMul,hve,hmod]);try rfl) fH ?_)
     refine fD bW dm hnx ⟨_,rfl,rfl⟩ ?_
     rintro _ rfl -
     refine ⟨cO,_,_,_,_,_,gY,(by decide),bT,?_⟩
     repeat (first|refine ah ?_|refine aO ?_|refine aJ ?_|refine dD ?_|refine af ?_|refine bC ?_|refine aK ?_|refine bf ?_|refine ak ?_|refine au ?_|refine ae ?_|refine dH ?_|refine dh ?_|refine aY ?_|refine bP ?_|refine gz ?_)
     exact bZ [1,2,3,7,8,9,10,11] (k+1,T++[y]) ⟨hkl,had y ho rfl,by simp only [hll];omega⟩ dW (by simp only [hll,<- nK];rfl)
    ·
     repeat (first|refine ah ?_|refine af ?_|refine ay ?_|refine aB ?_|refine ak ?_|refine au ?_|refine ae ?_|refine aA ?_|refine aH ?_)
     refine dG bu bu (fun _ _ r=>r=.int .i64 (cd w.length y)) ?_
     repeat (first|refine ah ?_|refine aJ ?_|refine dA (by rfl) aG (by (try simp (disch:=omega) only [go_sem,hve,hmod]);try rfl) ?_|refine mG (by rfl) (by rfl) (by omega) (by (try simp (disch:=omega) only [go_sem,Int.reduceAdd,Int.reduceSub,Int.reduceMul,hve,hmod]);try rfl) ?_|refine gB (by rfl) aG (by (try simp (disch:=omega) only [go_sem,reduceIte,Nat.reduceEqDiff,Nat.reduceAdd,Nat.reduceMul,hve,hmod]);try rfl) ?_|refine iE (by rfl) aW aI aG (by decide) (by (try simp (disch:=omega) only [go_sem,reduceIte,Nat.reduceEqDiff,Nat.reduceAdd,Nat.reduceMul,hve,hmod]);try rfl) fH ?_)
     refine fD bW dm hnx ⟨_,rfl,rfl⟩ ?_
     rintro _ rfl -
     refine ⟨cO,_,_,_,_,_,gY,(by decide),bT,?_⟩
     repeat (first|refine ah ?_|refine aO ?_|refine aJ ?_|refine dD ?_|refine af ?_|refine bC ?_|refine aK ?_|refine bf ?_|refine ax ?_|refine au ?_|refine ae ?_|refine dH ?_|refine aH ?_|refine dh ?_|refine aY ?_)
     exact bZ [1,2,3,7,8,9,10,11] (k+1,T) ⟨hkl,hsk (fun h=>absurd h ho),by simp only;omega⟩ dW rfl
  ·obtain rfl:k=R.length:=by omega
   have hd:=hbj.done hG hve hrow g3
   repeat (first|refine ah ?_|refine af ?_|refine ay ?_|refine bf ?_|refine aB ?_|refine bD (by rfl) ?_|refine ax ?_|refine au ?_|refine ae ?_|refine dH ?_)
   exact bZ [1,2,3,7,8,9] (i+1,T) ⟨hi,hd,by simp only [Nat.add_mul,Nat.one_mul];omega⟩ dW rfl
 ·obtain rfl:i=S.length:=by omega
  have hd:=hbi.done (Nat.le_refl _)
  have hTg:∀x∈T,FS.Good fin al w x:=fun x hx=>by obtain ⟨_,_,_,hg⟩:=(hd x).1 hx;exact hg
  have he:(fun x=>x∈T)=By fin al w (·∈S) s:=funext fun x=>propext (hd x)
  have hwd:=hwide T hTg (by omega)
  rw [he] at hwd
  repeat (first|refine ah ?_|refine af ?_|refine ay ?_|refine aB ?_|refine bD (by rfl) ?_|refine ax ?_|refine au ?_|refine ae ?_|refine fU ?_)
  refine dF bW (by simp (disch:=omega) only [fQ,GI,uH,HV.thaw,eu,aV,aT,if_true,if_false,reduceIte,Nat.reduceEqDiff,stripL,HV.strip,jR,jA,Nat.mul_one,List.cons_append,List.nil_append,List.append_nil,I,Bl,T3,List.getD_cons_zero,List.getD_cons_succ,HL.ints_strip,HL.bools_strip,jM];try rfl) (hwd) ?_
  rintro _ ⟨L,rfl,hL,hLn⟩
  refine ⟨(by simp only [bG,wF,HV.refFree,fM,HV.noRd,HL.ints_noRd,HL.bools_noRd,Bool.or_true,Bool.true_or,Bool.or_false,Bool.false_or,Bool.and_true,Bool.true_and,Bool.and_self,List.isEmpty_nil,beq_self_eq_true,List.cons_append,List.nil_append]),_,_,_,_,_,gY,(by decide),bT,?_⟩
  repeat (first|refine ah ?_|refine af ?_)
  refine az ?_
  exact ⟨L,rfl,hL,hLn⟩
end Go.Proofs.Ytlbdmpjnmfmnfaa
