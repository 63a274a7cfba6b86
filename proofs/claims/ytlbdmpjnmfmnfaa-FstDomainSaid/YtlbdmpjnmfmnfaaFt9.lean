import Derived.Test.YtlbdmpjnmfmnfaaFsV
import Derived.Test.YtlbdmpjnmfmnfaaFsL
import Derived.Test.YtlbdmpjnmfmnfaaHlW
import Derived.Test.YtlbdmpjnmfmnfaaFs3
import Derived.Test.YtlbdmpjnmfmnfaaFt1
set_option linter.unusedSimpArgs false
set_option linter.unusedVariables false
set_option maxHeartbeats 16000000
section
namespace Go.Proofs.Ytlbdmpjnmfmnfaa
open Go.RowKit Go.HL Go.FS
attribute [go_sem] List.length_map
def BO (fin:List Bool) (al:List A) (w:List Int) (most:Int):Prop:=okF fin al=true/\1<=most/\most<=64/\w.length<=1024
open Classical in
def Ws (fin:List Bool) (al:List A) (w:List Int) (most:Int) (r:HV):Prop:=if BO fin al w most then apR fin al w most r else r=.tup [.osl 1 0 [],.int .i64 1]
theorem Kz {fin:List Bool} {al:List A} {w:List Int} {most:Int} {r:HV} (h:¬ BO fin al w most) (hr:r=.tup [.osl 1 0 [],.int .i64 1]):Ws fin al w most r:=by unfold Ws;rw [if_neg h];exact hr
theorem Oh (fin:List Bool) (al:List A) (w:List Int) (most:Int) (hf:fin.length<=9223372036854775807) (ha:al.length<=9223372036854775807) (hwl:w.length<=9223372036854775807):HT Try.prog 17 [.agg (dR fin al),.sl w.length (HL.ints w),.int .i64 most] (Ws fin al w most):=by
 refine HT.of rfl aeO (bF rfl) ?_
 unfold c17
 have hvd:=wB fin al hf ha
 have hst:=Vw fin al w
 have hwd:=fun G=>JR fin al w G [(0,0)]
 simp only [ay,Nat.reduceAdd]
 simp only [dR,fU] at hvd hst ⊢
 refine zF ⟨?_⟩
 refine aX aG bz (hvd) ?_
 rintro _ rfl
 by_cases hv:okF fin al=true
 ·rw [hv]
  refine zG ⟨?_⟩
  by_cases m1:most<1
  ·refine zF ⟨?_⟩
   refine ae ?_
   exact Kz (fun h=>by have:=h.2.1;omega) rfl
  by_cases m2:64<most
  ·refine zF ⟨?_⟩
   refine ae ?_
   exact Kz (fun h=>by have:=h.2.2.1;omega) rfl
  by_cases m3:(1024:Int)<(w.length:Int)
  ·refine zF ⟨?_⟩
   refine ae ?_
   exact Kz (fun h=>by have:=h.2.2.2;omega) rfl
  have hok:BO fin al w most:=⟨hv,by omega,by omega,by omega⟩
  have hw:w.length<=1024:=by omega
  have hfl:=iw (·.f) fin.length al
  refine zF ⟨?_⟩
  refine aX aG bz (hst hv hw) ?_
  rintro _ ⟨G,rfl,hGn,hG⟩
  simp only [ab2]
  refine zG ⟨?_⟩
  refine zQ ⟨?_⟩
  have hK:Ws fin al w most=apR fin al w most:=by funext r;unfold Ws;rw [if_pos hok]
  rw [hK]
  have hin:∀a∈al,0<=a.f/\a.f<fin.length:=fun a ha=>by have:=gu hv ha;omega
  have hGl:G.length<=4194304:=by
   have h1:=BD hGn fun x hx=>Df hin ((hG x).1 hx)
   obtain ⟨h2,h3,h4⟩:=lF hv
   have:fin.length*(w.length+1)<=2048*1025:=CV h3 (by omega)
   omega
  refine aP 352 [2,3,4,8] ⟨[(2,.int .i64 most),(3,.pref 0 [] 0),(4,.pref 1 [] 0),(8,.ptr (stripL [.sl w.length (HL.ints w),.osl 1 (aT (·.f) fin.length al).length (dV (aT (·.f) fin.length al)),.omap ⟨.ints 2,none⟩ (G.map pk) (qh G.length)]) 0)],[(0,.optr (dR fin al)),(1,.optr [.sl w.length (HL.ints w)])],2⟩ rfl ?_
  rw [Ue]
  have h0:=aer hG
  by_cases hg:((0,0):Nd)∈G
  ·have hd:decide (((0,0):Nd)∈G)=true:=decide_eq_true hg
   rw [if_pos hg] at h0
   have hgd:∀x∈[((0,0):Nd)],FS.Good fin al w x:=fun x hx=>by
    simp only [zl009] at hx;subst hx;exact (hG _).1 hg
   have hwd':HTM Try.prog 55 [.ptr [.sl w.length (HL.ints w),.sl (aT (·.f) fin.length al).length (dH (aT (·.f) fin.length al)),.rmap ⟨.ints 2,none⟩ (G.map pk) (qh G.length)] 0,.osl 2 1 [.int .i64 0,.int .i64 0]] (fun r=>∃L,r=.osl 2 L.length (BP L)/\(∀x,x∈L <-> Cl fin al w (·∈[((0,0):Nd)]) x)/\L.length<=[((0,0):Nd)].length+G.length):=hwd G hv hw hG hGl hgd (by simp)
   simp only [runT]
   refine fP @hd ⟨?_⟩
   refine zY [] [] aG Aw OM rfl (by decide) (hwd') ?_
   rintro _ outs ⟨L,rfl,hL,hLl⟩ hol
   obtain rfl:=gI hol
   refine ⟨_,_,_,_,_,IB,(by decide),DI,?_⟩
   refine zF ⟨?_⟩
   refine qj (Weak.norm2 [2,3,4,8,9,10,11] _) ?_
   exact FX fin al w G most [([],L)] (aT (·.f) fin.length al) rfl hv hw (by omega) (by omega) hG hGl (by rw [h0];rfl) (fun q hq=>by
    simp only [zl009] at hq
    subst hq
    exact row0 hG hg hL (by simpa using hLl))
  ·have hd:decide (((0,0):Nd)∈G)=false:=decide_eq_false hg
   rw [if_neg hg] at h0
   simp only [runT]
   refine fP @hd ⟨?_⟩
   refine qj (Weak.norm2 [2,3,4,8,9,10,11] _) ?_
   exact FX fin al w G most [] (aT (·.f) fin.length al) rfl hv hw (by omega) (by omega) hG hGl (by rw [h0];rfl) (by simp)
 ·rw [show okF fin al=false by simpa using hv]
  refine zG ⟨?_⟩
  refine zF ⟨?_⟩
  refine ae ?_
  exact Kz (fun h=>hv h.1) rfl
theorem XO {α:Type} {l m:List α} (h:l.length≠m.length):l≠m:=fun e=>h (by rw [e])
theorem Hz {α:Type} {l m:List α} {n:Nat} (hl:l.length=n) (hm:m.length=n) (h:l.take n=m.take n):l=m:=by
 rw [kC (Nat.le_of_eq hl),kC (Nat.le_of_eq hm)] at h;exact h
theorem EJ (u v:List Int) (hu:u.length<=1000000000) (hv:v.length<=1000000000):HT Try.prog 62 [.sl u.length (HL.ints u),.sl v.length (HL.ints v)] (fun r=>r=.bool (decide (u=v))):=by
 refine HT.of rfl aeW (bF rfl) ?_
 unfold c62
 simp only [ay,Nat.reduceAdd]
 by_cases hl:u.length=v.length
 ·refine zF ⟨?_⟩
  refine aF [0,1,5] (fun k:Nat=>k<=u.length/\u.take k=v.take k)
   (fun k=>⟨[(0,.sl u.length (HL.ints u)),(1,.sl v.length (HL.ints v)),(5,.int .i64 k)],[],0⟩)
   (fun k=>u.length - k) 0 ⟨by omega,by simp⟩ rfl ?_
  rintro k ⟨hk,ht⟩
  by_cases hkl:k<u.length
  ·have h1:=bY hkl
   have h2:=bY (l:=v) (k:=k) (by omega)
   by_cases he:u.getD k 0=v.getD k 0
   ·refine zF ⟨?_⟩
    refine bJ aA aA (fun _ _ _=>False) ?_
    refine zF ⟨?_⟩
    exact aV [0,1,5] (k+1) ⟨hkl,by rw [h1,h2,ht];exact congrArg (fun x=>v.take k++[x]) he⟩ (by omega) rfl
   ·refine zF ⟨?_⟩
    refine bJ aA aA (fun _ _ _=>False) ?_
    refine zF ⟨?_⟩
    refine ae ?_
    have:u≠v:=fun e=>he (by rw [e])
    simp [bG,this]
  ·obtain rfl:k=u.length:=by omega
   have:=Hz rfl hl.symm ht
   refine zF ⟨?_⟩
   refine ae ?_
   simp [bG,this]
 ·refine zF ⟨?_⟩
  refine ae ?_
  have:=XO hl
  simp [bG,this]
def gr (l:List (List Int)):List HV:=l.map fun u=>.sl u.length (HL.ints u)
theorem abB (l:List (List Int)):(gr l).length=l.length:=by simp [gr]
theorem abv (l:List (List Int)) {k:Nat} (h:k<l.length):(gr l).getD k .dead=.sl (l.getD k []).length (HL.ints (l.getD k [])):=by simp [gr,h]
attribute [go_sem] abB abv
theorem adS (l:List (List Int)):(wds l).map dn0=gr l:=by
 unfold wds gr
 rw [kZ]
 refine List.map_congr_left fun u _=>?_
 by_cases h:u=[]
 ·subst h;rfl
 ·simp only [Function.comp,wR,if_neg h];rfl
theorem UT (l m:List (List Int)) (hl:l.length<=1000000000) (hm:m.length<=1000000000) (hu:∀u∈l,u.length<=1000000000) (hv:∀u∈m,u.length<=1000000000):HT Try.prog 19 [.sl l.length (gr l),.sl m.length (gr m)] (fun r=>r=.bool (decide (l=m))):=by
 refine HT.of rfl aeb (bF rfl) ?_
 unfold c19
 simp only [ay,Nat.reduceAdd]
 by_cases hlm:l.length=m.length
 ·refine zF ⟨?_⟩
  refine aF [0,1,5] (fun k:Nat=>k<=l.length/\l.take k=m.take k)
   (fun k=>⟨[(0,.sl l.length (gr l)),(1,.sl m.length (gr m)),(5,.int .i64 k)],[],0⟩)
   (fun k=>l.length - k) 0 ⟨by omega,by simp⟩ rfl ?_
  rintro k ⟨hk,ht⟩
  by_cases hkl:k<l.length
  ·have h1:=bY hkl
   have h2:=bY (l:=m) (k:=k) (by omega)
   have hs:=EJ (l.getD k []) (m.getD k []) (hu _ (by rw [bf,bn hkl];exact iD _)) (hv _ (by rw [bf,bn (show k<m.length by omega)];exact iD _))
   by_cases he:l.getD k []=m.getD k []
   ·rw [decide_eq_true he] at hs
    refine zF ⟨?_⟩
    refine bJ aA aA (fun _ _ r=>r=.bool true) ?_
    refine zF ⟨?_⟩
    refine fG aG bz hs ⟨_,rfl,rfl⟩ ?_
    rintro _ rfl -
    refine zG ⟨?_⟩
    refine zF ⟨?_⟩
    exact aV [0,1,5] (k+1) ⟨hkl,by rw [h1,h2,ht];exact congrArg (fun x=>m.take k++[x]) he⟩ (by omega) rfl
   ·rw [decide_eq_false he] at hs
    refine zF ⟨?_⟩
    refine bJ aA aA (fun _ _ r=>r=.bool false) ?_
    refine zF ⟨?_⟩
    refine fG aG bz hs ⟨_,rfl,rfl⟩ ?_
    rintro _ rfl -
    refine zG ⟨?_⟩
    refine zF ⟨?_⟩
    refine ae ?_
    have:l≠m:=fun e=>he (by rw [e])
    simp [bG,this]
  ·obtain rfl:k=l.length:=by omega
   have:=Hz rfl hlm.symm ht
   refine zF ⟨?_⟩
   refine ae ?_
   simp [bG,this]
 ·refine zF ⟨?_⟩
  refine ae ?_
  have:=XO hlm
  simp [bG,this]
theorem BZ (l m:List (List Int)) (hl:l.length<=1000000000) (hm:m.length<=1000000000) (hu:∀u∈l,u.length<=1000000000) (hv:∀u∈m,u.length<=1000000000):HT Try.prog 19 [.sl l.length (wds l),.sl m.length (wds m)] (fun r=>r=.bool (decide (l=m))) :=
 HT.arg (fun F h rvs o=>by
  have:=Zk o
  simpa only [dP,uG,dn1,adS] using this) (UT l m hl hm hu hv)
theorem UD {fin:List Bool} {al:List A} {w:List Int} {G:List Nd} {most:Int} (hk:Eh al) (hG:∀x,x∈G <-> FS.Good fin al w x) {l:List (List Int)} (h:Lst fin al w most l):∀u∈l,u.length<=G.length:=by
 intro u hu
 have ho:=(h.mem hk).1 hu
 have hm:=(oK (n:=u.length) hk).2 ⟨ho.beg,rfl⟩
 rcases dX G.length u.length with h2|h2
 ·exact absurd h (QL hk (fun x hx=>(hG x).2 hx) h2 (fun e=>by rw [e] at hm;cases hm))
 ·exact h2
end Go.Proofs.Ytlbdmpjnmfmnfaa
end
section
namespace Go.Proofs.Ytlbdmpjnmfmnfaa
open Go.RowKit Go.HL Go.FS
open Classical in
noncomputable def Eu (fin:List Bool) (al:List A) (w:List Int) (most:Int):List (List Int)×Int :=
 if BO fin al w most then (if h:∃l,Lst fin al w most l then (h.choose,0) else ([],4)) else ([],1)
theorem FN {fin:List Bool} {al:List A} (h:okF fin al=true):Eh al:=fun a ha=>by have:=gu h ha;omega
theorem acY {fin:List Bool} {al:List A} {w:List Int} {most:Int} {r:HV} (h:Ws fin al w most r):r=.tup [.osl 1 (Eu fin al w most).1.length (wds (Eu fin al w most).1),.int .i64 (Eu fin al w most).2]:=by
 unfold Ws at h
 unfold Eu
 by_cases ho:BO fin al w most
 ·rw [if_pos ho] at h
  rw [if_pos ho]
  rcases h with ⟨l,h1,rfl⟩|⟨h1,rfl⟩
  ·have he:∃l,Lst fin al w most l:=⟨l,h1⟩
   rw [dif_pos he]
   have:=he.choose_spec.uniq (FN ho.1) h1
   rw [this]
  ·rw [dif_neg (fun ⟨l,hl⟩=>h1 l hl)];rfl
 ·rw [if_neg ho] at h
  rw [if_neg ho,h];rfl
theorem ab8 {fin:List Bool} {al:List A} {w:List Int} {most:Int} (h:(Eu fin al w most).2=0):BO fin al w most/\Lst fin al w most (Eu fin al w most).1:=by
 unfold Eu at h ⊢
 by_cases ho:BO fin al w most
 ·rw [if_pos ho] at h ⊢
  by_cases he:∃l,Lst fin al w most l
  ·rw [dif_pos he] at h ⊢;exact ⟨ho,he.choose_spec⟩
  ·rw [dif_neg he] at h;cases h
 ·rw [if_neg ho] at h;cases h
theorem Yv {fin:List Bool} {al:List A} {w:List Int} {most:Int} (ho:BO fin al w most) {l:List (List Int)} (h:Lst fin al w most l):Eu fin al w most=(l,0):=by
 unfold Eu
 have he:∃l,Lst fin al w most l:=⟨l,h⟩
 rw [if_pos ho,dif_pos he,he.choose_spec.uniq (FN ho.1) h]
theorem abI {fin:List Bool} {al:List A} {w:List Int} {most:Int} (ho:BO fin al w most) (h:∀l,¬ Lst fin al w most l):Eu fin al w most=([],4):=by
 unfold Eu
 rw [if_pos ho,dif_neg (fun ⟨l,hl⟩=>h l hl)]
theorem YT (fin:List Bool) (al:List A) (w:List Int) (most:Int):(Eu fin al w most).2=0\/((Eu fin al w most).1=[]/\((Eu fin al w most).2=4\/(Eu fin al w most).2=1)):=by
 unfold Eu
 by_cases ho:BO fin al w most
 ·rw [if_pos ho]
  by_cases he:∃l,Lst fin al w most l
  ·rw [dif_pos he];exact .inl rfl
  ·rw [dif_neg he];exact .inr ⟨rfl,.inl rfl⟩
 ·rw [if_neg ho];exact .inr ⟨rfl,.inr rfl⟩
open Classical in
theorem Yn {fin:List Bool} {al:List A} {w:List Int} {most:Int} {l:List (List Int)} (ho:BO fin al w most) (h:Lst fin al w most l):l.length<=64/\∀u∈l,u.length<=10000000:=by
 have hv:=ho.1
 have hk:=FN hv
 have hw:=ho.2.2.2
 obtain ⟨h1,h2,h3⟩:=lF hv
 refine ⟨by obtain ⟨n,_,_,h5⟩:=h;have:=ho.2.2.1;omega,fun u hu=>?_⟩
 have hin:∀a∈al,0<=a.f/\a.f<fin.length:=fun a ha=>by have:=gu hv ha;omega
 have hG:∀x,x∈(nodes fin.length w.length).filter (fun x=>decide (FS.Good fin al w x)) <-> FS.Good fin al w x:=fun x=>by
  rw [zl058]
  simp only [decide_eq_true_eq]
  refine ⟨fun h=>h.2,fun h=>⟨?_,h⟩⟩
  exact Jw (Df hin h)
 have h4:=UD hk hG h u hu
 have h5:=List.length_filter_le (fun x=>decide (FS.Good fin al w x)) (nodes fin.length w.length)
 rw [Jj] at h5
 have h6:fin.length*(w.length+1)<=2048*1025:=CV h2 (by omega)
 omega
theorem Yk (fin:List Bool) (al:List A) (w:List Int) (most:Int):(Eu fin al w most).1.length<=64/\∀u∈(Eu fin al w most).1,u.length<=10000000:=by
 rcases YT fin al w most with h|⟨h,_⟩
 ·obtain ⟨h1,h2⟩:=ab8 h
  exact Yn h1 h2
 ·rw [h];simp
noncomputable def apT (fin:List Bool) (al:List A) (w:List Int) (most:Int):HV:=.tup [.osl 1 (Eu fin al w most).1.length (wds (Eu fin al w most).1),.int .i64 (Eu fin al w most).2]
theorem Ur (fin:List Bool) (al:List A) (w:List Int) (most:Int) (hf:fin.length<=9223372036854775807) (ha:al.length<=9223372036854775807) (hwl:w.length<=9223372036854775807):HT Try.prog 17 [.agg (dR fin al),.sl w.length (HL.ints w),.int .i64 most] (fun r=>r=apT fin al w most) :=
 (Oh fin al w most hf ha hwl).mono fun _ h=>acY h
def fC (p:List Bool×List A):List HV:=[.sl p.1.length (HL.bools p.1),.sl p.2.length (recs aC p.2)]
theorem fR:Rec fC 2:=⟨fun _=>rfl,fun _=>rfl,fun _=>rfl,fun p=>by simp [fC,stripL,HV.strip,HL.bools_strip,jO]⟩
theorem XV (l:List (List Bool×List A)) {i:Nat} (h:i<l.length):win (recs fC l) (i*2) 2=[.sl (l.getD i default).1.length (HL.bools (l.getD i default).1),.sl (l.getD i default).2.length (recs aC (l.getD i default).2)]:=y8 fR l h
theorem XB (l:List (List Bool×List A)):(recs fC l).length=l.length*2:=wX fR l
attribute [go_sem] XV XB List.length_map
end Go.Proofs.Ytlbdmpjnmfmnfaa
end
