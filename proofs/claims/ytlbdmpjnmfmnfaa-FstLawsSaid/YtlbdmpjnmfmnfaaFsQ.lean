import Derived.Test.YtlbdmpjnmfmnfaaFsV
import Derived.Test.YtlbdmpjnmfmnfaaFsL
section
set_option linter.unusedSimpArgs false
set_option linter.unusedVariables false
namespace Go.Proofs.Ytlbdmpjnmfmnfaa
open Go.RowKit Go.HL Go.FS
attribute [go_sem] List.length_map
end Go.Proofs.Ytlbdmpjnmfmnfaa
end
section
set_option linter.unusedSimpArgs false
set_option linter.unusedVariables false
namespace Go.Proofs.Ytlbdmpjnmfmnfaa
open Go.RowKit Go.HL Go.FS
end Go.Proofs.Ytlbdmpjnmfmnfaa
end
section
set_option linter.unusedSimpArgs false
set_option linter.unusedVariables false
namespace Go.Proofs.Ytlbdmpjnmfmnfaa
open Go.RowKit Go.HL Go.FS
end Go.Proofs.Ytlbdmpjnmfmnfaa
end
section
set_option linter.unusedSimpArgs false
set_option linter.unusedVariables false
namespace Go.Proofs.Ytlbdmpjnmfmnfaa
open Go.RowKit Go.HL Go.FS
end Go.Proofs.Ytlbdmpjnmfmnfaa
end
section
set_option linter.unusedSimpArgs false
set_option linter.unusedVariables false
namespace Go.Proofs.Ytlbdmpjnmfmnfaa
open Go.RowKit Go.HL Go.FS
def rV (fin:List Bool) (al:List A) (w:List Int) (most:Int):Prop:=okF fin al=true/\1<=most/\most<=64/\w.length<=1024
open Classical in
def Ot (fin:List Bool) (al:List A) (w:List Int) (most:Int) (r:HV):Prop:=if rV fin al w most then apR fin al w most r else r=.tup [.osl 1 0 [],.int .i64 1]
theorem Dq {fin:List Bool} {al:List A} {w:List Int} {most:Int} {r:HV} (h:¬ rV fin al w most) (hr:r=.tup [.osl 1 0 [],.int .i64 1]):Ot fin al w most r:=by unfold Ot;rw [if_neg h];exact hr
set_option maxHeartbeats 16000000 in
theorem Fz (fin:List Bool) (al:List A) (w:List Int) (most:Int) (hf:fin.length<=9223372036854775807) (ha:al.length<=9223372036854775807) (hwl:w.length<=9223372036854775807):HT Try.prog 17 [.agg (iC fin al),.sl w.length (HL.ints w),.int .i64 most] (Ot fin al w most):=by
 refine HT.of rfl adC (Nat.le_of_ble_eq_true rfl) ?_
 unfold c17
 have hvd:=o9 fin al hf ha
 have hst:=Ql fin al w
 have hwd:=fun G=>CQ fin al w G [(0,0)]
 simp only [aY,Nat.reduceAdd]
 simp only [iC,jX] at hvd hst ⊢
 repeat (first|refine ah ?_|refine af ?_|refine ak ?_|refine ae ?_|refine bU ?_|refine fJ ?_|refine dU ?_)
 refine bY bz bW (hvd) ?_
 rintro _ rfl
 by_cases hv:okF fin al=true
 ·rw [hv]
  refine ⟨bG,_,_,_,_,_,fU,(by decide),bu,?_⟩
  by_cases m1:most<1
  ·repeat (first|refine ah ?_|refine aK ?_|refine dH ?_|refine af ?_|refine az ?_|refine aS ?_|refine aO ?_|refine ax ?_|refine ak ?_|refine ae ?_|refine bU ?_|refine gW (by rfl) ?_)
   refine ay ?_
   exact Dq (fun h=>by have:=h.2.1;omega) rfl
  by_cases m2:64<most
  ·repeat (first|refine ah ?_|refine aK ?_|refine dH ?_|refine af ?_|refine az ?_|refine aS ?_|refine aO ?_|refine ax ?_|refine ak ?_|refine ae ?_|refine bU ?_|refine dm ?_|refine gW (by rfl) ?_)
   refine ay ?_
   exact Dq (fun h=>by have:=h.2.2.1;omega) rfl
  by_cases m3:(1024:Int)<(w.length:Int)
  ·repeat (first|refine ah ?_|refine aK ?_|refine aZ ?_|refine af ?_|refine az ?_|refine aO ?_|refine aQ ?_|refine ax ?_|refine ak ?_|refine ae ?_|refine bU ?_|refine dm ?_|refine gW (by rfl) ?_)
   refine ay ?_
   exact Dq (fun h=>by have:=h.2.2.2;omega) rfl
  have hok:rV fin al w most:=⟨hv,by omega,by omega,by omega⟩
  have hw:w.length<=1024:=by omega
  have hfl:=iY (·.f) fin.length al
  repeat (first|refine ah ?_|refine aK ?_|refine aZ ?_|refine af ?_|refine az ?_|refine aO ?_|refine aQ ?_|refine au ?_|refine ak ?_|refine ae ?_|refine aF ?_|refine dm ?_|refine gW (by rfl) ?_|refine fJ ?_)
  refine bY bz bW (hst hv hw) ?_
  rintro _ ⟨G,rfl,hGn,hG⟩
  simp only [VM]
  refine ⟨bG,_,_,_,_,_,fU,(by decide),bu,?_⟩
  repeat (first|refine ah ?_|refine af ?_)
  have hK:Ot fin al w most=apR fin al w most:=by funext r;unfold Ot;rw [if_pos hok]
  rw [hK]
  have hin:∀a∈al,0<=a.f/\a.f<fin.length:=fun a ha=>by have:=dh hv ha;omega
  have hGl:G.length<=4194304:=by
   have h1:=uu hGn fun x hx=>wB hin ((hG x).1 hx)
   obtain ⟨h2,h3,h4⟩:=dR hv
   have:fin.length*(w.length+1)<=2048*1025:=Nat.mul_le_mul h3 (by omega)
   omega
  refine bg 352 [2,3,4,8] ⟨[(2,.int .i64 most),(3,.pref 0 [] 0),(4,.pref 1 [] 0),(8,.ptr (stripL [.sl w.length (HL.ints w),.osl 1 (bT (·.f) fin.length al).length (gp (bT (·.f) fin.length al)),.omap ⟨.ints 2,none⟩ (G.map pk) (lX G.length)]) 0)],[(0,.optr (iC fin al)),(1,.optr [.sl w.length (HL.ints w)])],2⟩ rfl ?_
  rw [Lr]
  have h0:=aee hG
  by_cases hg:((0,0):Nd)∈G
  ·have hd:decide (((0,0):Nd)∈G)=true:=decide_eq_true hg
   rw [if_pos hg] at h0
   have hgd:∀x∈[((0,0):Nd)],FS.Good fin al w x:=fun x hx=>by
    simp only [List.mem_singleton] at hx;subst hx;exact (hG _).1 hg
   have hwd':HTM Try.prog 55 [.ptr [.sl w.length (HL.ints w),.sl (bT (·.f) fin.length al).length (fO (bT (·.f) fin.length al)),.rmap ⟨.ints 2,none⟩ (G.map pk) (lX G.length)] 0,.osl 2 1 [.int .i64 0,.int .i64 0]] (fun r=>∃L,r=.osl 2 L.length (uV L)/\(∀x,x∈L <-> Cl fin al w (·∈[((0,0):Nd)]) x)/\L.length<=[((0,0):Nd)].length+G.length):=hwd G hv hw hG hGl hgd (by simp)
   simp only [runT]
   repeat (first|refine ah ?_|refine jb (by rfl) aW (by (try simp (disch:=omega) only [go_sem,hd]);try rfl) ?_|refine af ?_|refine ax ?_|refine ak ?_|refine ae ?_|refine bU ?_|refine dE ?_|refine bQ ?_|refine Jj (eV rfl) aV ⟨rfl,rfl⟩ (by (try simp (disch:=omega) only [go_sem,reduceIte,Nat.reduceEqDiff,Nat.reduceAdd,Nat.reduceMul,hd]);try rfl) (by rfl) ?_|refine iE aV rfl ?_|refine di ?_)
   refine vY [] [] bz CZ QN rfl (by decide) (hwd') ?_
   rintro _ outs ⟨L,rfl,hL,hLl⟩ hol
   obtain rfl:=List.eq_nil_of_length_eq_zero hol
   refine ⟨_,_,_,_,_,fU,(by decide),Gf,?_⟩
   repeat (first|refine ah ?_|refine af ?_|refine ak ?_|refine ae ?_|refine aB ?_|refine bU ?_|refine uw eH bz aP jG (by simp) (by rfl) (by rfl) (by rfl) ?_|refine lw ?_|refine di ?_)
   refine mZ (Weak.norm2 [2,3,4,8,9,10,11] _) ?_
   exact zk fin al w G most [([],L)] (bT (·.f) fin.length al) rfl hv hw (by omega) (by omega) hG hGl (by rw [h0];rfl) (fun q hq=>by
    simp only [List.mem_singleton] at hq
    subst hq
    exact row0 hG hg hL (by simpa using hLl))
  ·have hd:decide (((0,0):Nd)∈G)=false:=decide_eq_false hg
   rw [if_neg hg] at h0
   simp only [runT]
   repeat (first|refine ah ?_|refine jb (by rfl) aW (by (try simp (disch:=omega) only [go_sem,hd]);try rfl) ?_|refine af ?_|refine au ?_|refine ak ?_|refine ae ?_|refine aB ?_|refine aF ?_|refine bU ?_|refine dE ?_|refine Jj (eV rfl) aV ⟨rfl,rfl⟩ (by (try simp (disch:=omega) only [go_sem,reduceIte,Nat.reduceEqDiff,Nat.reduceAdd,Nat.reduceMul,hd]);try rfl) (by rfl) ?_|refine iE aV rfl ?_|refine di ?_)
   refine mZ (Weak.norm2 [2,3,4,8,9,10,11] _) ?_
   exact zk fin al w G most [] (bT (·.f) fin.length al) rfl hv hw (by omega) (by omega) hG hGl (by rw [h0];rfl) (by simp)
 ·rw [show okF fin al=false by simpa using hv]
  refine ⟨bG,_,_,_,_,_,fU,(by decide),bu,?_⟩
  repeat (first|refine ah ?_|refine dH ?_|refine af ?_|refine aS ?_|refine ax ?_|refine ak ?_|refine ae ?_|refine bU ?_|refine iI (by rfl) ?_)
  refine ay ?_
  exact Dq (fun h=>hv h.1) rfl
end Go.Proofs.Ytlbdmpjnmfmnfaa
end
section
set_option linter.unusedSimpArgs false
set_option linter.unusedVariables false
namespace Go.Proofs.Ytlbdmpjnmfmnfaa
open Go.RowKit Go.HL Go.FS
end Go.Proofs.Ytlbdmpjnmfmnfaa
end
section
set_option linter.unusedSimpArgs false
set_option linter.unusedVariables false
namespace Go.Proofs.Ytlbdmpjnmfmnfaa
open Go.RowKit Go.HL Go.FS
theorem NI {α:Type} {l m:List α} (h:l.length≠m.length):l≠m:=fun e=>h (by rw [e])
theorem zD {α:Type} {l m:List α} {n:Nat} (hl:l.length=n) (hm:m.length=n) (h:l.take n=m.take n):l=m:=by
 rw [List.take_of_length_le (Nat.le_of_eq hl),List.take_of_length_le (Nat.le_of_eq hm)] at h;exact h
theorem xq (u v:List Int) (hu:u.length<=1000000000) (hv:v.length<=1000000000):HT Try.prog 62 [.sl u.length (HL.ints u),.sl v.length (HL.ints v)] (fun r=>r=.bool (decide (u=v))):=by
 refine HT.of rfl aev (Nat.le_of_ble_eq_true rfl) ?_
 unfold c62
 simp only [aY,Nat.reduceAdd]
 by_cases hl:u.length=v.length
 ·repeat (first|refine ah ?_|refine af ?_|refine fA ?_|refine aQ ?_|refine au ?_|refine ak ?_|refine ae ?_|refine aB ?_|refine aF ?_)
  refine cu [0,1,5] (fun k:Nat=>k<=u.length/\u.take k=v.take k)
   (fun k=>⟨[(0,.sl u.length (HL.ints u)),(1,.sl v.length (HL.ints v)),(5,.int .i64 k)],[],0⟩)
   (fun k=>u.length - k) 0 ⟨by omega,by simp⟩ rfl ?_
  rintro k ⟨hk,ht⟩
  by_cases hkl:k<u.length
  ·have h1:=dw hkl
   have h2:=dw (l:=v) (k:=k) (by omega)
   by_cases he:u.getD k 0=v.getD k 0
   ·repeat (first|refine ah ?_|refine af ?_|refine az ?_|refine aQ ?_|refine ax ?_|refine ak ?_|refine ae ?_|refine aB ?_|refine aF ?_)
    refine gu aT aT (fun _ _ _=>False) ?_
    repeat (first|refine ah ?_|refine aU ?_|refine bZ ?_|refine af ?_|refine fA ?_|refine bH ?_|refine au ?_|refine ae ?_|refine fK ?_|refine aF ?_)
    exact dB [0,1,5] (k+1) ⟨hkl,by rw [h1,h2,ht];exact congrArg (fun x=>v.take k++[x]) he⟩ (by omega) rfl
   ·repeat (first|refine ah ?_|refine af ?_|refine az ?_|refine aQ ?_|refine ax ?_|refine ak ?_|refine ae ?_|refine aB ?_|refine aF ?_)
    refine gu aT aT (fun _ _ _=>False) ?_
    repeat (first|refine ah ?_|refine aU ?_|refine bZ ?_|refine af ?_|refine fA ?_|refine ax ?_|refine ak ?_|refine ae ?_)
    refine ay ?_
    have:u≠v:=fun e=>he (by rw [e])
    simp [dG,this]
  ·obtain rfl:k=u.length:=by omega
   have:=zD rfl hl.symm ht
   repeat (first|refine ah ?_|refine af ?_|refine az ?_|refine aQ ?_|refine bK (by rfl) ?_|refine au ?_|refine ak ?_|refine ae ?_)
   refine ay ?_
   simp [dG,this]
 ·repeat (first|refine ah ?_|refine af ?_|refine fA ?_|refine aQ ?_|refine ax ?_|refine ak ?_|refine ae ?_)
  refine ay ?_
  have:=NI hl
  simp [dG,this]
def gr (l:List (List Int)):List HV:=l.map fun u=>.sl u.length (HL.ints u)
theorem WN (l:List (List Int)):(gr l).length=l.length:=by simp [gr]
theorem VV (l:List (List Int)) {k:Nat} (h:k<l.length):(gr l).getD k .dead=.sl (l.getD k []).length (HL.ints (l.getD k [])):=by simp [gr,h]
attribute [go_sem] WN VV
theorem Ut (l:List (List Int)):(wds l).map dn0=gr l:=by
 unfold wds gr
 rw [List.map_map]
 refine List.map_congr_left fun u _=>?_
 by_cases h:u=[]
 ·subst h;rfl
 ·simp only [Function.comp,wR,if_neg h];rfl
set_option maxHeartbeats 4000000 in
theorem AU (l m:List (List Int)) (hl:l.length<=1000000000) (hm:m.length<=1000000000) (hu:∀u∈l,u.length<=1000000000) (hv:∀u∈m,u.length<=1000000000):HT Try.prog 19 [.sl l.length (gr l),.sl m.length (gr m)] (fun r=>r=.bool (decide (l=m))):=by
 refine HT.of rfl aeB (Nat.le_of_ble_eq_true rfl) ?_
 unfold c19
 simp only [aY,Nat.reduceAdd]
 by_cases hlm:l.length=m.length
 ·repeat (first|refine ah ?_|refine af ?_|refine fA ?_|refine aQ ?_|refine au ?_|refine ak ?_|refine ae ?_|refine aB ?_|refine aF ?_)
  refine cu [0,1,5] (fun k:Nat=>k<=l.length/\l.take k=m.take k)
   (fun k=>⟨[(0,.sl l.length (gr l)),(1,.sl m.length (gr m)),(5,.int .i64 k)],[],0⟩)
   (fun k=>l.length - k) 0 ⟨by omega,by simp⟩ rfl ?_
  rintro k ⟨hk,ht⟩
  by_cases hkl:k<l.length
  ·have h1:=dw hkl
   have h2:=dw (l:=m) (k:=k) (by omega)
   have hs:=xq (l.getD k []) (m.getD k []) (hu _ (by rw [List.getD_eq_getElem?_getD,List.getElem?_eq_getElem hkl];exact List.getElem_mem _)) (hv _ (by rw [List.getD_eq_getElem?_getD,List.getElem?_eq_getElem (show k<m.length by omega)];exact List.getElem_mem _))
   by_cases he:l.getD k []=m.getD k []
   ·rw [decide_eq_true he] at hs
    repeat (first|refine ah ?_|refine af ?_|refine az ?_|refine aQ ?_|refine ax ?_|refine ak ?_|refine ae ?_|refine aB ?_|refine aF ?_)
    refine gu aT aT (fun _ _ r=>r=.bool true) ?_
    repeat (first|refine ah ?_|refine aU ?_|refine bZ ?_)
    refine dO bz bW hs ⟨_,rfl,rfl⟩ ?_
    rintro _ rfl -
    refine ⟨bG,_,_,_,_,_,fU,(by decide),bu,?_⟩
    repeat (first|refine ah ?_|refine af ?_|refine bH ?_|refine au ?_|refine ae ?_|refine fK ?_|refine aF ?_|refine gW (by rfl) ?_)
    exact dB [0,1,5] (k+1) ⟨hkl,by rw [h1,h2,ht];exact congrArg (fun x=>m.take k++[x]) he⟩ (by omega) rfl
   ·rw [decide_eq_false he] at hs
    repeat (first|refine ah ?_|refine af ?_|refine az ?_|refine aQ ?_|refine ax ?_|refine ak ?_|refine ae ?_|refine aB ?_|refine aF ?_)
    refine gu aT aT (fun _ _ r=>r=.bool false) ?_
    repeat (first|refine ah ?_|refine aU ?_|refine bZ ?_)
    refine dO bz bW hs ⟨_,rfl,rfl⟩ ?_
    rintro _ rfl -
    refine ⟨bG,_,_,_,_,_,fU,(by decide),bu,?_⟩
    repeat (first|refine ah ?_|refine af ?_|refine ax ?_|refine ak ?_|refine ae ?_|refine iI (by rfl) ?_)
    refine ay ?_
    have:l≠m:=fun e=>he (by rw [e])
    simp [dG,this]
  ·obtain rfl:k=l.length:=by omega
   have:=zD rfl hlm.symm ht
   repeat (first|refine ah ?_|refine af ?_|refine az ?_|refine aQ ?_|refine bK (by rfl) ?_|refine au ?_|refine ak ?_|refine ae ?_)
   refine ay ?_
   simp [dG,this]
 ·repeat (first|refine ah ?_|refine af ?_|refine fA ?_|refine aQ ?_|refine ax ?_|refine ak ?_|refine ae ?_)
  refine ay ?_
  have:=NI hlm
  simp [dG,this]
theorem pY (l m:List (List Int)) (hl:l.length<=1000000000) (hm:m.length<=1000000000) (hu:∀u∈l,u.length<=1000000000) (hv:∀u∈m,u.length<=1000000000):HT Try.prog 19 [.sl l.length (wds l),.sl m.length (wds m)] (fun r=>r=.bool (decide (l=m))) :=
 HT.arg (fun F h rvs o=>by
  have:=Ju o
  simpa only [List.map_cons,List.map_nil,dn1,Ut] using this) (AU l m hl hm hu hv)
theorem Me {fin:List Bool} {al:List A} {w:List Int} {G:List Nd} {most:Int} (hk:uN al) (hG:∀x,x∈G <-> FS.Good fin al w x) {l:List (List Int)} (h:Lst fin al w most l):∀u∈l,u.length<=G.length:=by
 intro u hu
 have ho:=(h.mem hk).1 hu
 have hm:=(je (n:=u.length) hk).2 ⟨ho.beg,rfl⟩
 rcases Nat.lt_or_ge G.length u.length with h2|h2
 ·exact absurd h (Js hk (fun x hx=>(hG x).2 hx) h2 (fun e=>by rw [e] at hm;cases hm))
 ·exact h2
end Go.Proofs.Ytlbdmpjnmfmnfaa
end
