import Derived.Test.YteamkjblpglliaaClHull
import Derived.Test.YteamkjblpglliaaAbC
import Derived.Test.YteamkjblpglliaaHlRo
set_option linter.unusedSimpArgs false
set_option linter.unusedVariables false
namespace Go.Proofs.Yteamkjblpglliaa
open Go.RowKit Go.SL Go.HL
def KA (l:List Nat) (v:HV):Prop:=v=stk l\/(l=[]/\v=.nils)
def Am (out:List Bool) (i:Nat):List Bool:=if out.getD i false=true then out else out.set i true
def ET (out:List Bool) (i:Nat) (l:List Nat):List Nat:=if out.getD i false=true then l else l++[i]
set_option maxHeartbeats 4000000 in
theorem Dn (out:List Bool) (l:List Nat) (v:HV) (i:Nat) (hv:KA l v) (hi:i<out.length) (hn:out.length<=100000) (hl:l.length<=50000) :
  HTI Try.prog 49 [.int .i64 i,.optr [.osl 1 out.length (HL.bools out)],.optr [v]] [1,2] (fun r outs=>r=.tup []/\∃v',KA (ET out i l) v'/\outs=[.optr [.osl 1 out.length (HL.bools (Am out i))],.optr [v']]):=by
 refine HTI.of rfl ad9 (Nat.le_of_ble_eq_true rfl) 3 [1,2] (by rfl) (by rfl) (⟨[(0,.int .i64 i),(1,.pref 0 [] 0),(2,.pref 1 [] 0)],[(0,.optr [.osl 1 out.length (HL.bools out)]),(1,.optr [v])],2⟩:St) rfl ?_
 unfold c49
 unfold Am ET
 cases hb:out.getD i false with
 | true =>
  repeat (first|refine ah ?_|refine bY ?_|refine gJ (by rfl) dm (by (try simp (disch:=omega) only [go_sem,reduceIte,Nat.reduceEqDiff,Nat.reduceAdd,Nat.reduceMul,hb]);try rfl) aT (by (try simp (disch:=omega) only [go_sem,hb]);try rfl) fP ?_|refine ag ?_|refine au ?_|refine ak ?_|refine ae ?_|refine aA ?_|refine dR (by rfl) ?_)
  refine lJ (rs:=[1,2]) aJ jH ug ?_
  exact ⟨_,rfl,rfl,by simp,rfl,v,by simpa using hv,by simp⟩
 | false =>
  refine ak ?_
  refine ae ?_
  repeat (first|refine ah ?_|refine bY ?_|refine gJ (by rfl) dm (by (try simp (disch:=omega) only [go_sem,reduceIte,Nat.reduceEqDiff,Nat.reduceAdd,Nat.reduceMul,hb]);try rfl) aT (by (try simp (disch:=omega) only [go_sem,hb]);try rfl) fP ?_|refine ag ?_|refine gZ (by rfl) ?_)
  refine ax ?_
  refine ak ?_
  refine ae ?_
  repeat (first|refine ah ?_|refine bY ?_|refine aH ?_|refine ag ?_|refine iI ?_)
  refine dO [0,1,2] (⟨[(0,.int .i64 i),(1,.pref 0 [] 0),(2,.pref 1 [] 0)],[(0,.optr [.osl 1 out.length (HL.bools (out.set i true))]),(1,.optr [v])],2⟩:St) rfl ?_
  refine oZ 1 (by rfl) ?_
  simp only [List.take_succ_cons,List.take_zero,List.drop_succ_cons,List.drop_zero]
  repeat (first|refine ah ?_|refine ag ?_)
  rcases hv with rfl|⟨rfl,rfl⟩
  ·refine vU [0] [1] aJ jH ug rfl (by decide) (Oa l i (by omega)) (by rfl) ?_
   rintro _ _ ⟨rfl,rfl⟩ -
   refine ⟨_,_,_,_,_,dw,wV,?_⟩
   repeat (first|refine ag ?_|refine ae ?_)
   refine lJ (rs:=[1,2]) aJ jH ug ?_
   exact ⟨_,rfl,rfl,by simp,rfl,_,.inl rfl,by simp⟩
  ·refine vU [0] [1] aJ jH ug rfl (by decide) (KN i) (by rfl) ?_
   rintro _ _ ⟨rfl,rfl⟩ -
   refine ⟨_,_,_,_,_,dw,wV,?_⟩
   repeat (first|refine ag ?_|refine ae ?_)
   refine lJ (rs:=[1,2]) aJ jH ug ?_
   exact ⟨_,rfl,rfl,by simp,rfl,_,.inl rfl,by simp⟩
theorem HInv.vis {g:List (List Int)} {set out:List Bool} {l:List Nat} {m i:Nat} {ex:Nat->Prop} (h:HInv g set m ex out l) (hi:i<set.length) (hx:∀X,mY g X->Nc set X->X.getD i false=true) :
  HInv g set m ex (Am out i) (ET out i l)/\(Am out i).getD i false=true/\(∀u,out.getD u false=true->(Am out i).getD u false=true)/\2*JR (Am out i)+(ET out i l).length<=2*JR out+l.length:=by
 unfold Am ET
 cases hb:out.getD i false with
 | true=>exact ⟨by simpa using h,by simpa using hb,fun u hu=>by simpa using hu,by simp⟩
 | false =>
  have hio:i<out.length:=by rw [h.len];exact hi
  have hg:∀u:Nat,(out.set i true).getD u false=if i=u then true else out.getD u false:=fun u=>Af out i u hio
  have hu:=BP out i hio hb
  simp only [Bool.false_eq_true,if_false]
  refine ⟨h.visit hi hb hx,by rw [hg];simp,fun u hu=>by rw [hg];split;rfl;exact hu,?_⟩
  rw [List.length_append]
  simp only [List.length_cons,List.length_nil]
  omega
theorem N8 {α:Type} {l:List α} (h:l≠[]):∃l0 p,l=l0++[p]:=⟨l.dropLast,l.getLast h,(List.dropLast_concat_getLast h).symm⟩
theorem EW (n:Nat):(List.replicate n [HV.bool false]).flatten=HL.bools (List.replicate n false):=by
 induction n with
 | zero=>rfl
 | succ n ih=>simp only [List.replicate_succ,List.flatten_cons,ih];rfl
set_option maxHeartbeats 8000000 in
theorem BB (g:List (List Int)) (set:List Bool) (h1:g.length<=300) (h2:set.length<=9223372036854775807) (h3:∀i,(g.getD i []).length<=9223372036854775807) :
  HT Try.prog 27 [Gs g,Bl set] (fun r=>∃out,r=.osl 1 out.length (HL.bools out)/\(kw g set=false/\out=[]\/kw g set=true/\xA g set out)):=by
 refine HT.of rfl ae5 (Nat.le_of_ble_eq_true rfl) ?_
 unfold c27
 simp only [Gs,Bl,aP,Nat.reduceAdd]
 repeat (first|refine ah ?_|refine ag ?_|refine ak ?_|refine ae ?_|refine eU rfl (by rfl) gU ?_)
 refine bf aJ (by simp (disch:=omega) only [dL,Gs,HV.thaw,dC,aX,bg,if_true,if_false,reduceIte,Nat.reduceEqDiff,stripL,HV.strip,fF,dJ,eG,Nat.mul_one,List.cons_append,List.nil_append,List.append_nil,I,Bl,T3,Es,List.getD_cons_zero,List.getD_cons_succ,HL.ints_strip,HL.bools_strip,eu,dS];try rfl) (Ic g set (by omega) h2 h3) ?_
 rintro _ rfl
 refine ⟨dE,_,_,_,_,_,dw,(by decide),aQ,?_⟩
 cases hf:kw g set with
 | false =>
  repeat (first|refine ag ?_|refine ax ?_|refine ak ?_|refine ae ?_|refine eU rfl (by rfl) gU ?_|refine gZ (by rfl) ?_)
  refine ay ?_
  exact ⟨[],rfl,.inl ⟨rfl,rfl⟩⟩
 | true =>
  obtain ⟨he,hin⟩:=rV hf
  have hrb:=EW set.length
  repeat (first|refine ah ?_|refine ag ?_|refine aF ?_|refine au ?_|refine ak ?_|refine ae ?_|refine aA ?_|refine dR (by rfl) ?_|refine dn ?_|refine iD gU ?_|refine ku gU (by rfl) (by omega) bW bW ?_)
  refine Bf aJ ?_
  repeat (first|refine ah ?_|refine ag ?_|refine aF ?_|refine ak ?_|refine ae ?_|refine aB ?_)
  refine bD [0,5,6,7,20,21,22] (fun s:Nat×List Bool×List Nat×HV=>s.1<=set.length/\KA s.2.2.1 s.2.2.2/\HInv g set s.1 (fun _=>False) s.2.1 s.2.2.1)
   (fun s=>⟨[(0,.sl g.length (aZ g)),(5,.pref 0 [] 0),(6,.pref 1 [] 0),(7,.fn 49 [.pref 0 [] 0,.pref 1 [] 0]),(20,.sl set.length (HL.bools set)),(21,.int .i64 set.length),(22,.int .i64 s.1)],[(0,.optr [.osl 1 set.length (HL.bools s.2.1)]),(1,.optr [s.2.2.2])],2⟩)
   (fun s=>set.length - s.1) (0,List.replicate set.length false,[],.nils) ⟨by simp,.inr ⟨rfl,rfl⟩,HInv.init g set⟩ rfl ?_
  rintro ⟨i,out,l,v⟩ ⟨hi,hv,hI⟩
  simp only at hi hv hI ⊢
  have hol:=hI.len
  have hfew:=hI.few
  by_cases hil:i<set.length
  ·cases hsi:set.getD i false with
   | false =>
    repeat (first|refine ah ?_|refine aN ?_|refine bK (by rfl) aT (by (try simp (disch:=omega) only [go_sem,hsi]);try rfl) ?_|refine ag ?_|refine az ?_|refine di (by rfl) (by rfl) (by (try simp (disch:=omega) only [go_sem,Int.reduceAdd,Int.reduceSub,Int.reduceMul,hsi]);try rfl) ?_|refine ax ?_|refine au ?_|refine ak ?_|refine ae ?_|refine aB ?_|refine dh ?_|refine aA ?_)
    exact bJ [0,5,6,7,20,21,22] (i+1,out,l,v) ⟨hil,hv,hI.next (fun h=>by rw [hsi] at h;cases h)⟩ dV rfl
   | true =>
    have hvis:=Dn out l v i hv (by omega) (by omega) (by omega)
    rw [hol] at hvis
    obtain ⟨a1,a2,a3,a4⟩:=hI.vis hil (fun X _ hX=>hX i hsi)
    refine ak ?_
    refine ae ?_
    repeat (first|refine ag ?_|refine az ?_)
    refine ak ?_
    refine ax ?_
    refine aA ?_
    refine ak ?_
    refine aB ?_
    refine ak ?_
    refine ae ?_
    repeat (first|refine ah ?_|refine aN ?_|refine bK (by rfl) aT (by (try simp (disch:=omega) only [go_sem,hsi]);try rfl) ?_|refine ag ?_)
    refine ak ?_
    refine ae ?_
    repeat (first|refine ah ?_|refine ag ?_)
    refine ax ?_
    refine oZ 2 (by rfl) ?_
    simp only [List.take_succ_cons,List.take_zero,List.drop_succ_cons,List.drop_zero]
    repeat (first|refine ah ?_|refine ag ?_)
    refine Ae [1,2] [0,1] (by rfl) (by (try simp only [List.map_cons,List.map_nil,List.cons_append,List.nil_append]);repeat (first|(apply eL1;· exact fP)|rfl)) jH ug rfl (by decide) (hvis) (by rfl) ?_
    rintro _ _ ⟨rfl,v',hv',rfl⟩ -
    refine ⟨_,_,_,_,_,dw,wV,?_⟩
    repeat (first|refine ah ?_|refine ag ?_|refine bz ?_|refine ae ?_|refine dh ?_)
    exact bJ [0,5,6,7,20,21,22] (i+1,Am out i,ET out i l,v') ⟨hil,hv',a1.next (fun _=>a2)⟩ dV rfl
  ·obtain rfl:i=set.length:=by omega
   repeat (first|refine ag ?_|refine az ?_|refine aO ?_|refine au ?_|refine ak ?_|refine ae ?_|refine aB ?_)
   refine bD [0,5,6,7] (fun s:List Bool×List Nat×HV=>KA s.2.1 s.2.2/\HInv g set set.length (fun _=>False) s.1 s.2.1)
    (fun s=>⟨[(0,.sl g.length (aZ g)),(5,.pref 0 [] 0),(6,.pref 1 [] 0),(7,.fn 49 [.pref 0 [] 0,.pref 1 [] 0])],[(0,.optr [.osl 1 set.length (HL.bools s.1)]),(1,.optr [s.2.2])],2⟩)
    (fun s=>2*JR s.1+s.2.1.length) (out,l,v) ⟨hv,hI⟩ rfl ?_
   clear hI hv hol hfew hil hi
   clear out l v
   rintro ⟨out,l,v⟩ ⟨hv,hI⟩
   simp only at hv hI ⊢
   have hol:=hI.len
   have hfew:=hI.few
   by_cases hl0:l=[]
   ·subst hl0
    rcases hv with rfl|⟨-,rfl⟩
    ·unfold stk
     repeat (first|refine ah ?_|refine aH ?_|refine ag ?_|refine eH (by rfl) ?_|refine aO ?_|refine au ?_|refine ak ?_|refine ae ?_|refine bn ?_|refine aC ?_)
     refine zS 0 [4] (⟨[(4,.ref 0 [] 1 0 set.length)],[(0,.osl 1 set.length (HL.bools out))],1⟩:St) rfl ?_
     refine ay ?_
     exact ⟨out,by rw [hol];rfl,.inr ⟨trivial,hI.hull⟩⟩
    ·repeat (first|refine ah ?_|refine aH ?_|refine ag ?_|refine aO ?_|refine au ?_|refine ak ?_|refine ae ?_|refine bn ?_|refine Uu (by rfl) ?_|refine aC ?_)
     refine zS 0 [4] (⟨[(4,.ref 0 [] 1 0 set.length)],[(0,.osl 1 set.length (HL.bools out))],1⟩:St) rfl ?_
     refine ay ?_
     exact ⟨out,by rw [hol];rfl,.inr ⟨trivial,hI.hull⟩⟩
   ·obtain ⟨l0,p,rfl⟩:=N8 hl0
    obtain ⟨hP,hpn,hpo⟩:=hI.pop
    have hfew2:=hP.few
    obtain rfl:v=stk (l0++[p]):=by
     rcases hv with h|⟨h,_⟩
     ·exact h
     ·exact absurd h hl0
    have hlp:(l0++[p]).length=l0.length+1:=by simp
    have hnp:=fH (l0++[p])
    have hpop:=RG l0 p (by omega)
    unfold stk at hpop ⊢
    rw [hlp] at hpop hfew ⊢
    obtain ⟨row,hrow⟩:∃row,g.getD p []=row:=⟨_,rfl⟩
    have hrl:=h3 p
    rw [hrow] at hrl
    refine ak ?_
    refine ak ?_
    refine ae ?_
    repeat (first|refine aH ?_|refine ag ?_|refine eH (by rfl) ?_|refine bn ?_|refine aC ?_)
    refine ax ?_
    refine aA ?_
    refine aB ?_
    refine ak ?_
    refine oZ 1 (by rfl) ?_
    simp only [List.take_succ_cons,List.take_zero,List.drop_succ_cons,List.drop_zero]
    repeat (first|refine ah ?_|refine ag ?_)
    refine vU [0] [1] aJ jH ug rfl (by decide) (hpop) (by rfl) ?_
    rintro _ _ ⟨rfl,rfl⟩ -
    refine ⟨_,_,_,_,_,dw,wV,?_⟩
    repeat (first|refine ah ?_|refine aN ?_|refine bK (by rfl) aT (by (try simp (disch:=omega) only [go_sem,hrow]);try rfl) ?_|refine ag ?_|refine aF ?_|refine ae ?_|refine aB ?_)
    refine bD [0,5,6,7,39,40,41] (fun s:Nat×List Bool×List Nat×HV=>s.1<=row.length/\KA s.2.2.1 s.2.2.2/\HInv g set set.length (fun u=>u=p) s.2.1 s.2.2.1/\(∀k,k<s.1->s.2.1.getD (row.getD k 0).toNat false=true)/\(∀u,out.getD u false=true->s.2.1.getD u false=true)/\2*JR s.2.1+s.2.2.1.length<=2*JR out+l0.length)
     (fun s=>⟨[(0,.sl g.length (aZ g)),(5,.pref 0 [] 0),(6,.pref 1 [] 0),(7,.fn 49 [.pref 0 [] 0,.pref 1 [] 0]),(39,.sl row.length (HL.ints row)),(40,.int .i64 row.length),(41,.int .i64 s.1)],[(0,.optr [.osl 1 set.length (HL.bools s.2.1)]),(1,.optr [s.2.2.2])],2⟩)
     (fun s=>row.length - s.1) (0,out,l0,stk l0) ⟨by simp,.inl rfl,hP,fun k hk=>absurd hk (Nat.not_lt_zero _),fun u h=>h,Nat.le_refl _⟩ rfl ?_
    rintro ⟨j,out',l',v'⟩ ⟨hj,hv',hI',hall,hmono,hms⟩
    simp only at hj hv' hI' hall hmono hms ⊢
    have hol':=hI'.len
    have hfew':=hI'.few
    by_cases hjl:j<row.length
    ·obtain ⟨x,hx⟩:∃x,row.getD j 0=x:=⟨_,rfl⟩
     have hxm:x∈g.getD p []:=by rw [hrow,<- hx];exact lX row 0 hjl
     obtain ⟨y,rfl⟩:∃y:Nat,x=y:=⟨x.toNat,by have:=(hin p x hxm).1;omega⟩
     have hyn:y<set.length:=by have:=(hin p y hxm).2;omega
     have hvis:=Dn out' l' v' y hv' (by omega) (by omega) (by omega)
     rw [hol'] at hvis
     obtain ⟨a1,a2,a3,a4⟩:=hI'.vis hyn (fun X hX1 hX2=>by
      have:=hX1 p (hI'.least X hX1 hX2 p (hmono p hpo)) y hxm
      simpa using this)
     refine ak ?_
     refine ae ?_
     repeat (first|refine ag ?_|refine az ?_)
     refine ak ?_
     refine ax ?_
     refine aA ?_
     refine ak ?_
     refine aB ?_
     refine ak ?_
     refine ae ?_
     repeat (first|refine ah ?_|refine aN ?_|refine bK (by rfl) aT (by (try simp (disch:=omega) only [go_sem,hx]);try rfl) ?_|refine ag ?_)
     refine oZ 2 (by rfl) ?_
     simp only [List.take_succ_cons,List.take_zero,List.drop_succ_cons,List.drop_zero]
     repeat (first|refine ah ?_|refine ag ?_)
     refine Ae [1,2] [0,1] (by rfl) (by (try simp only [List.map_cons,List.map_nil,List.cons_append,List.nil_append]);repeat (first|(apply eL1;· exact fP)|rfl)) jH ug rfl (by decide) (hvis) (by rfl) ?_
     rintro _ _ ⟨rfl,v2,hv2,rfl⟩ -
     refine ⟨_,_,_,_,_,dw,wV,?_⟩
     repeat (first|refine ah ?_|refine ag ?_|refine bz ?_|refine ae ?_|refine dh ?_)
     exact bJ [0,5,6,7,39,40,41] (j+1,Am out' y,ET out' y l',v2) ⟨hjl,hv2,a1,fun k hk=>by
      by_cases e:k=j
      ·subst e;rw [hx];simpa using a2
      ·exact a3 _ (hall k (by omega)),fun u hu=>a3 u (hmono u hu),by simp only;omega⟩ dV rfl
    ·obtain rfl:j=row.length:=by omega
     have hD:=hI'.done (fun q hq=>by
      rw [hrow] at hq
      obtain ⟨k,hk,rfl⟩:=List.getElem_of_mem hq
      have:=hall k hk
      rwa [show row.getD k 0=row[k] by rw [List.getD_eq_getElem?_getD,List.getElem?_eq_getElem hk,Option.getD_some]] at this)
     repeat (first|refine ag ?_|refine az ?_|refine aO ?_|refine au ?_|refine ak ?_|refine ae ?_|refine dh ?_)
     exact bJ [0,5,6,7] (out',l',v') ⟨hv',hD⟩ dV rfl
end Go.Proofs.Yteamkjblpglliaa
