import Derived.Test.YteamkjblpglliaaAbG
section
set_option linter.unusedSimpArgs false
set_option linter.unusedVariables false
namespace Go.Proofs.Yteamkjblpglliaa
open Go.RowKit Go.SL Go.HL
def wu (W C:List Int) (n:Nat) (B:Int) (s:Se) (set:List Bool):Se:=if wS C set n<=B/\rE W C n set s.best=true then { s with best:=set } else s
theorem NZ {W C:List Int} {n:Nat} {X Y:List Bool} (hX:X.length=n) (hY:Y.length=n) (h:rE W C n X Y=true):0<n:=by
 cases n with
 | zero =>
  obtain rfl:=List.eq_nil_of_length_eq_zero hX
  obtain rfl:=List.eq_nil_of_length_eq_zero hY
  rw [BF] at h;cases h
 | succ n=>omega
set_option maxHeartbeats 8000000 in
theorem xx {W C:List Int} {nd:List (List Nat)} {B:Int} (h:Pb W C nd B) (us:List (List Nat)) (s:Se) (set:List Bool) (hb:s.best.length=nd.length) (hs:set.length=nd.length):HTI Try.prog 61 [.optr (pW W C nd us B s),Bl set] [0] (fun r outs=>r=.tup []/\outs=[.optr (pW W C nd us B (wu W C nd.length B s set))]):=by
 have hsz:=h.g.size
 have hlw:=h.lw
 have hlc:=h.lc
 have hnl:(nd.map nl).length=nd.length:=by simp
 have o1:=fD C set h.cok (by omega) (by omega)
 have o2:=Iy h us s set hb hs
 have hrs:∀l:List (List Nat),stripL (aZ (l.map nl))=aZ (l.map nl):=fun l=>fC _
 simp only [I,Bl,Gs,pW,hlw,hlc,hb,hs,hnl] at o1 o2
 refine (HTI.frozen (K:=fun r outs=>r=.tup []/\∃cs,outs=[.optr cs]/\stripL cs=pW W C nd us B (wu W C nd.length B s set)) ?_ (fun r o hk=>hk.2.imp fun _ h=>h.1)).mono (by
  rintro r _ ⟨cs,⟨rfl,cs',e1,e2⟩,rfl⟩
  simp only [List.cons.injEq,HV.optr.injEq,and_true] at e1
  subst e1
  exact ⟨rfl,by rw [e2]⟩)
 simp only [pW,I,Bl,Gs,hlw,hlc,hb,hs,hnl]
 refine HTI.of rfl adZ (Nat.le_of_ble_eq_true rfl) 2 [0] (by rfl) (by rfl) (⟨[(0,.pref 0 [] 0),(1,.sl nd.length (HL.bools set))],[(0,.optr [.sl nd.length (HL.ints W),.sl nd.length (HL.ints C),.sl nd.length (aZ (nd.map nl)),.int .i64 B,.int .i64 s.steps,.sl nd.length (HL.bools s.best),.int .i64 s.num,.int .i64 s.den,.int .i64 s.value,.sl s.set.length (HL.bools s.set),.sl s.flow.length (HL.ints s.flow),.sl (us.map nl).length (aZ (us.map nl))])],1⟩:St) rfl ?_
 unfold c61
 repeat (first|refine ak ?_)
 refine bQ bi bi (fun f _ r=>if f=75 then r=.bool (rE W C nd.length set s.best) else r=.int .i64 (wS C set nd.length)) ?_
 repeat (first|refine ah ?_|refine aH ?_|refine aC ?_|refine cZ fP rfl ?_)
 refine bG aJ dI (o1.mono fun r h=>h) ⟨.int .i64 (wS C set nd.length),rfl,rfl⟩ ?_
 rintro r hr -
 obtain rfl:r=.int .i64 (wS C set nd.length):=hr
 refine ⟨dE,_,_,_,_,_,dw,(by decide),aQ,?_⟩
 by_cases h1:wS C set nd.length<=B
 ·repeat (first|refine ah ?_|refine aG ?_|refine aH ?_|refine dU ?_|refine aC ?_|refine cZ fP rfl ?_)
  refine bG aJ (by simp (disch:=omega) only [dL,fC,HV.thaw,dC,aX,bg,if_true,if_false,reduceIte,Nat.reduceEqDiff,stripL,HV.strip,fF,dJ,eG,Nat.mul_one,List.cons_append,List.nil_append,List.append_nil,I,Bl,T3,Es,List.getD_cons_zero,List.getD_cons_succ,HL.ints_strip,HL.bools_strip,eu,dS];try rfl) (o2.mono fun r h=>h) ⟨.bool (rE W C nd.length set s.best),rfl,rfl⟩ ?_
  rintro r hr -
  obtain rfl:r=.bool (rE W C nd.length set s.best):=hr
  refine ⟨dE,_,_,_,_,_,dw,(by decide),aQ,?_⟩
  by_cases h2:rE W C nd.length set s.best=true
  ·have hn:=NZ hs hb h2
   have hcl:=nX set (by omega) (by omega)
   simp only [Bl,hs] at hcl
   rw [h2]
   repeat (first|refine ah ?_|refine ag ?_|refine aK ?_|refine ax ?_|refine ae ?_)
   refine bf aJ dI (hcl) ?_
   rintro _ rfl
   refine ⟨dE,_,_,_,_,_,dw,(by decide),aQ,?_⟩
   repeat (first|refine ag ?_|refine aC ?_|refine dn ?_|refine cZ fP rfl ?_)
   refine lJ (rs:=[0]) aJ jH ug ?_
   refine ⟨_,rfl,rfl,by simp,rfl,_,rfl,?_⟩
   rw [wu,if_pos ⟨h1,h2⟩]
   simp only [pW,I,Bl,Gs,hlw,hlc,hs,hnl,stripL,HV.strip,HL.ints_strip,HL.bools_strip,fC]
  ·have h2':rE W C nd.length set s.best=false:=by simpa using h2
   rw [h2']
   repeat (first|refine ag ?_|refine aK ?_|refine au ?_|refine aA ?_)
   refine lJ (rs:=[0]) aJ jH ug ?_
   refine ⟨_,rfl,rfl,by simp,rfl,_,rfl,?_⟩
   rw [wu,if_neg (fun h=>h2 h.2)]
   simp only [pW,I,Bl,Gs,hlw,hlc,hb,hnl,stripL,HV.strip,HL.ints_strip,HL.bools_strip,fC]
 ·repeat (first|refine ah ?_|refine bZ ?_|refine aH ?_|refine ag ?_|refine aI ?_|refine au ?_|refine aA ?_|refine dU ?_|refine aC ?_|refine cZ fP rfl ?_)
  refine lJ (rs:=[0]) aJ jH ug ?_
  refine ⟨_,rfl,rfl,by simp,rfl,_,rfl,?_⟩
  rw [wu,if_neg (fun h=>h1 h.1)]
  simp only [pW,I,Bl,Gs,hlw,hlc,hb,hnl,stripL,HV.strip,HL.ints_strip,HL.bools_strip,fC]
end Go.Proofs.Yteamkjblpglliaa
end
section
set_option linter.unusedSimpArgs false
set_option linter.unusedVariables false
namespace Go.Proofs.Yteamkjblpglliaa
open Go.RowKit Go.SL Go.HL
structure U7 (nd us:List (List Nat)):Prop where
 len:us.length=nd.length
 mem:∀k j,j∈us.getD k [] <-> j<nd.length/\k∈nd.getD j []
 row:∀k,(us.getD k []).length<=nd.length
def Oz (nd:List (List Nat)) (X:List Bool):Prop:=∀u k,u<nd.length->k∈nd.getD u []->X.getD k false=true->X.getD u false=true
structure WInv (nd:List (List Nat)) (out:List Bool) (i:Nat) (D:List Bool) (L:List Nat):Prop where
 len:D.length=nd.length
 sub:∀u:Nat,out.getD u false=true->D.getD u false=true
 has:D.getD i false=true
 mem:∀u∈L,D.getD u false=true/\u<nd.length
 cov:∀u:Nat,D.getD u false=true->out.getD u false=true\/u∈L
 nodup:L.Nodup
 fix:∀X:List Bool,dH nd X->(∀u:Nat,out.getD u false=true->X.getD u false=false)->X.getD i false=false->∀u:Nat,D.getD u false=true->X.getD u false=false
theorem lV (l:List Bool) (j k:Nat) (b:Bool) (h:j<l.length):(l.set j b).getD k false=if j=k then b else l.getD k false:=by
 simp only [List.getD_eq_getElem?_getD,List.getElem?_set]
 by_cases e:j=k
 ·subst e;simp [h]
 ·simp [e]
theorem WInv.start {nd:List (List Nat)} {out:List Bool} {i:Nat} (ho:out.length=nd.length) (hi:i<nd.length):WInv nd out i (out.set i true) [i]:=by
 have hg:=fun k=>lV out i k true (by omega)
 refine ⟨by simp [ho],fun u h=>?_,?_,fun u h=>?_,fun u h=>?_,by simp,fun X _ h1 h2 u h=>?_⟩
 ·rw [hg];split;rfl;exact h
 ·rw [hg,if_pos rfl]
 ·simp only [List.mem_singleton] at h
  subst h
  exact ⟨by rw [hg,if_pos rfl],hi⟩
 ·rw [hg] at h
  split at h
  ·rename_i e;right;simp [e]
  ·exact .inl h
 ·rw [hg] at h
  split at h
  ·rename_i e;rw [<- e];exact h2
  ·exact h1 u h
theorem WInv.add {nd us:List (List Nat)} (hu:U7 nd us) {out:List Bool} {i:Nat} {D:List Bool} {L:List Nat} (h:WInv nd out i D L) {u j:Nat} (hL:u∈L) (hj:j∈us.getD u []) (hD:D.getD j false=false):WInv nd out i (D.set j true) (L++[j]):=by
 obtain ⟨hjn,hju⟩:=(hu.mem u j).1 hj
 have hg:=fun k=>lV D j k true (by rw [h.len];exact hjn)
 refine ⟨by simp [h.len],fun k hk=>?_,?_,fun k hk=>?_,fun k hk=>?_,?_,fun X hX h1 h2 k hk=>?_⟩
 ·rw [hg];split;rfl;exact h.sub k hk
 ·rw [hg];split;rfl;exact h.has
 ·rcases List.mem_append.1 hk with hk|hk
  ·exact ⟨by rw [hg];split;rfl;exact (h.mem k hk).1,(h.mem k hk).2⟩
  ·simp only [List.mem_singleton] at hk
   subst hk
   exact ⟨by rw [hg,if_pos rfl],hjn⟩
 ·rw [hg] at hk
  split at hk
  ·rename_i e;right;simp [e]
  ·rcases h.cov k hk with h|h
   ·exact .inl h
   ·right;simp [h]
 ·refine List.nodup_append.2 ⟨h.nodup,by simp,fun a ha b hb e=>?_⟩
  simp only [List.mem_singleton] at hb
  subst hb
  subst e
  rw [(h.mem a ha).1] at hD;cases hD
 ·rw [hg] at hk
  split at hk
  ·rename_i e
   subst e
   cases hXj:X.getD j false with
   | false=>rfl
   | true =>
    have h3:=hX j hXj u hju
    rw [h.fix X hX h1 h2 u (h.mem u hL).1] at h3;cases h3
  ·exact h.fix X hX h1 h2 k hk
theorem WInv.lens {nd:List (List Nat)} {out:List Bool} {i:Nat} {D:List Bool} {L:List Nat} (h:WInv nd out i D L):L.length<=nd.length:=jY h.nodup fun u hu=>(h.mem u hu).2
structure WoR (nd:List (List Nat)) (out:List Bool) (i:Nat) (D:List Bool):Prop where
 len:D.length=nd.length
 sub:∀u:Nat,out.getD u false=true->D.getD u false=true
 has:D.getD i false=true
 fix:∀X:List Bool,dH nd X->(∀u:Nat,out.getD u false=true->X.getD u false=false)->X.getD i false=false->∀u:Nat,D.getD u false=true->X.getD u false=false
 up:Oz nd out->Oz nd D
theorem WInv.done {nd us:List (List Nat)} (hu:U7 nd us) {out:List Bool} {i:Nat} {D:List Bool} {L:List Nat} (h:WInv nd out i D L) (hd:∀u∈L,∀j∈us.getD u [],D.getD j false=true):WoR nd out i D :=
 ⟨h.len,h.sub,h.has,h.fix,fun ho u k hun huk hk=>by
  rcases h.cov k hk with h1|h1
  ·exact h.sub u (ho u k hun huk h1)
  ·exact hd k h1 u ((hu.mem k u).2 ⟨hun,huk⟩)⟩
set_option maxHeartbeats 8000000 in
theorem Gz {W C:List Int} {nd us:List (List Nat)} {B:Int} (h:Pb W C nd B) (hu:U7 nd us) (s:Se) (out:List Bool) (i:Nat) (ho:out.length=nd.length) (hi:i<nd.length):HT Try.prog 64 [.ptr (pW W C nd us B s) 0,Bl out,.int .i64 i] (fun r=>∃D,r=.osl 1 nd.length (HL.bools D)/\WoR nd out i D):=by
 have hsz:=h.g.size
 have hnl:(us.map nl).length=nd.length:=by rw [List.length_map,hu.len]
 have hcl:=nX out (by omega) (by omega)
 simp only [Bl,ho] at hcl
 refine HT.of rfl afa (Nat.le_of_ble_eq_true rfl) ?_
 unfold c64
 simp only [pW,I,Bl,Gs,aP,Nat.reduceAdd,ho,hnl]
 repeat (first|refine ah ?_|refine ag ?_|refine ak ?_|refine ae ?_|refine eU rfl (by rfl) gU ?_)
 refine bf aJ dI (hcl) ?_
 rintro _ rfl
 refine ⟨dE,_,_,_,_,_,dw,(by decide),aQ,?_⟩
 repeat (first|refine ah ?_|refine bY ?_|refine ag ?_|refine ak ?_|refine ae ?_|refine aB ?_|refine iI ?_|refine dF ?_)
 refine bD [0,1,7,8] (fun q:Nat×List Bool×List Nat=>WInv nd out i q.2.1 q.2.2/\q.1<=q.2.2.length/\∀k,k<q.1->∀j∈us.getD (q.2.2.getD k 0) [],q.2.1.getD j false=true)
  (fun q=>⟨[(0,.ptr [I W,I C,Gs (nd.map nl),.int .i64 B,.int .i64 s.steps,Bl s.best,.int .i64 s.num,.int .i64 s.den,.int .i64 s.value,Bl s.set,I s.flow,.sl nd.length (aZ (us.map nl))] 0),(1,.ref 0 [] 1 0 nd.length),(7,.ref 1 [] 1 0 q.2.2.length),(8,.int .i64 q.1)],[(0,.osl 1 nd.length (HL.bools q.2.1)),(1,.osl 1 q.2.2.length (HL.ints (nl q.2.2)))],2⟩) (fun q=>nd.length - q.1) (0,out.set i true,[i]) ⟨WInv.start ho hi,by simp,by simp⟩ rfl ?_
 rintro ⟨k,D,L⟩ ⟨hI,hk,hdn⟩
 simp only at hI hk hdn ⊢
 have hLl:=hI.lens
 have hDl:=hI.len
 have hnL:=fH L
 by_cases hkL:k<L.length
 ·obtain ⟨u,hue⟩:∃u,L.getD k 0=u:=⟨_,rfl⟩
  have huL:u∈L:=by rw [<- hue];exact getD_mem L k 0 hkL
  have hun:=(hI.mem u huL).2
  have hrl:=hu.row u
  obtain ⟨row,hrow⟩:∃row,us.getD u []=row:=⟨_,rfl⟩
  rw [hrow] at hrl
  have hnr:=fH row
  repeat (first|refine ah ?_|refine ag ?_|refine az ?_|refine eH (by rfl) ?_|refine ax ?_|refine ak ?_|refine ae ?_|refine aB ?_|refine aA ?_)
  refine bQ bi bi (fun _ _ _=>False) ?_
  repeat (first|refine ah ?_|refine aN ?_|refine bY ?_|refine bK (by rfl) aT (by (try simp (disch:=omega) only [go_sem,hue,dM,hrow]);try rfl) ?_|refine gJ (by rfl) dm (by (try simp (disch:=omega) only [go_sem,reduceIte,Nat.reduceEqDiff,Nat.reduceAdd,Nat.reduceMul,hue,dM,hrow]);try rfl) aT (by (try simp (disch:=omega) only [go_sem,hue,dM,hrow]);try rfl) fP ?_|refine ag ?_|refine aF ?_|refine aB ?_|refine nK (by rfl) (by rfl) ?_|refine cZ fP rfl ?_)
  refine bD [0,1,7,8,33,34,35] (fun q:Nat×List Bool×List Nat=>WInv nd out i q.2.1 q.2.2/\q.1<=row.length/\k<q.2.2.length/\q.2.2.getD k 0=u/\(∀j∈row.take q.1,q.2.1.getD j false=true)/\∀x,x<k->∀j∈us.getD (q.2.2.getD x 0) [],q.2.1.getD j false=true)
   (fun q=>⟨[(0,.ptr [I W,I C,Gs (nd.map nl),.int .i64 B,.int .i64 s.steps,Bl s.best,.int .i64 s.num,.int .i64 s.den,.int .i64 s.value,Bl s.set,I s.flow,.sl nd.length (aZ (us.map nl))] 0),(1,.ref 0 [] 1 0 nd.length),(7,.ref 1 [] 1 0 q.2.2.length),(8,.int .i64 k),(33,.sl row.length (HL.ints (nl row))),(34,.int .i64 row.length),(35,.int .i64 q.1)],[(0,.osl 1 nd.length (HL.bools q.2.1)),(1,.osl 1 q.2.2.length (HL.ints (nl q.2.2)))],2⟩) (fun q=>row.length - q.1) (0,D,L) ⟨hI,by simp,hkL,hue,by simp,hdn⟩ rfl ?_
  clear hI hk hdn hLl hDl hnL hkL hue huL
  rintro ⟨m,D,L⟩ ⟨hI,hm,hkL,hue,htk,hdn⟩
  simp only at hI hm hkL hue htk hdn ⊢
  have hLl:=hI.lens
  have hDl:=hI.len
  have hnL:=fH L
  have huL:u∈L:=by rw [<- hue];exact getD_mem L k 0 hkL
  by_cases hmr:m<row.length
  ·obtain ⟨j,hje⟩:∃j,row.getD m 0=j:=⟨_,rfl⟩
   have hjr:j∈us.getD u []:=by rw [hrow,<- hje];exact getD_mem row m 0 hmr
   have hjn:=((hu.mem u j).1 hjr).1
   have hts:=cO row m 0 hmr
   rw [hje] at hts
   cases hDj:D.getD j false with
   | true =>
    repeat (first|refine ah ?_|refine aN ?_|refine bY ?_|refine bK (by rfl) aT (by (try simp (disch:=omega) only [go_sem,hje,hDj]);try rfl) ?_|refine gJ (by rfl) dm (by (try simp (disch:=omega) only [go_sem,reduceIte,Nat.reduceEqDiff,Nat.reduceAdd,Nat.reduceMul,hje,hDj]);try rfl) aT (by (try simp (disch:=omega) only [go_sem,hje,hDj]);try rfl) fP ?_|refine ag ?_|refine az ?_|refine di (by rfl) (by rfl) (by (try simp (disch:=omega) only [go_sem,Int.reduceAdd,Int.reduceSub,Int.reduceMul,hje,hDj]);try rfl) ?_|refine ax ?_|refine au ?_|refine ak ?_|refine ae ?_|refine aB ?_|refine dh ?_|refine aA ?_|refine dR (by rfl) ?_)
    refine bJ [0,1,7,8,33,34,35] (m+1,D,L) ⟨hI,hmr,hkL,hue,fun x hx=>?_,hdn⟩ dV rfl
    simp only at hx
    rw [hts] at hx
    rcases List.mem_append.1 hx with hx|hx
    ·exact htk x hx
    ·simp only [List.mem_singleton] at hx;subst hx;exact hDj
   | false =>
    have hsn:(L++[j]).length=L.length+1:=by simp
    have hI':=hI.add hu huL hjr hDj
    have hg:=fun x=>lV D j x true (by omega)
    have mono:∀x:Nat,D.getD x false=true->(D.set j true).getD x false=true:=fun x hx=>by rw [hg];split;rfl;exact hx
    have hpre:∀x,x<L.length->(L++[j]).getD x 0=L.getD x 0:=fun x hx=>by rw [List.getD_eq_getElem?_getD,List.getElem?_append_left hx,List.getD_eq_getElem?_getD]
    repeat (first|refine ah ?_|refine aN ?_|refine bY ?_|refine bK (by rfl) aT (by (try simp (disch:=omega) only [go_sem,hje,hDj]);try rfl) ?_|refine gJ (by rfl) dm (by (try simp (disch:=omega) only [go_sem,reduceIte,Nat.reduceEqDiff,Nat.reduceAdd,Nat.reduceMul,hje,hDj]);try rfl) aT (by (try simp (disch:=omega) only [go_sem,hje,hDj]);try rfl) fP ?_|refine ag ?_|refine az ?_|refine di (by rfl) (by rfl) (by (try simp (disch:=omega) only [go_sem,Int.reduceAdd,Int.reduceSub,Int.reduceMul,hje,hDj]);try rfl) ?_|refine ax ?_|refine ak ?_|refine ae ?_|refine aB ?_|refine dh ?_|refine aA ?_|refine gZ (by rfl) ?_|refine yU (by rfl) fP bW qp (by rfl) (by decide) dm bW aT (by (try simp (disch:=omega) only [go_sem,hje,hDj]);try rfl) bW ?_|refine dF ?_|refine jq gU (by rfl) fP AY (by (try simp (disch:=omega) only [go_sem,reduceIte,Nat.reduceEqDiff,Nat.reduceAdd,Nat.reduceMul,hje,hDj]);try omega) dm (by (try simp (disch:=omega) only [go_sem,reduceIte,Nat.reduceEqDiff,Nat.reduceAdd,Nat.reduceMul,hje,hDj]);try rfl) gU (by omega) jT aT (by (try simp (disch:=omega) only [go_sem,reduceIte,Nat.reduceEqDiff,Nat.reduceAdd,Nat.reduceMul,hje,hDj]);try rfl) bW ?_)
    refine bJ [0,1,7,8,33,34,35] (m+1,D.set j true,L++[j]) ⟨hI',hmr,by simp only;omega,by simp only;rw [hpre k hkL];exact hue,fun x hx=>?_,fun x hx y hy=>?_⟩ dV (by rw [hsn];rfl)
    ·simp only at hx ⊢
     rw [hts] at hx
     rcases List.mem_append.1 hx with hx|hx
     ·exact mono x (htk x hx)
     ·simp only [List.mem_singleton] at hx;subst hx;rw [hg,if_pos rfl]
    ·simp only at hy ⊢
     rw [hpre x (by omega)] at hy
     exact mono y (hdn x hx y hy)
  ·obtain rfl:m=row.length:=by omega
   rw [List.take_length] at htk
   repeat (first|refine ah ?_|refine ag ?_|refine az ?_|refine bz ?_|refine aO ?_|refine au ?_|refine ak ?_|refine ae ?_|refine dh ?_)
   refine bJ [0,1,7,8] (k+1,D,L) ⟨hI,by simp only;omega,fun x hx y hy=>?_⟩ dV rfl
   simp only at hx hy ⊢
   by_cases hxk:x<k
   ·exact hdn x hxk y hy
   ·obtain rfl:x=k:=by omega
    rw [hue,hrow] at hy
    exact htk y hy
 ·obtain rfl:k=L.length:=by omega
  repeat (first|refine ah ?_|refine ag ?_|refine az ?_|refine eH (by rfl) ?_|refine aO ?_|refine au ?_|refine ak ?_|refine ae ?_)
  refine ay ?_
  refine ⟨D,rfl,hI.done hu fun u huL j hj=>?_⟩
  obtain ⟨x,hx,rfl⟩:=List.getElem_of_mem huL
  refine hdn x hx j ?_
  rw [gW hx]
  exact hj
end Go.Proofs.Yteamkjblpglliaa
end
section
set_option linter.unusedSimpArgs false
set_option linter.unusedVariables false
namespace Go.Proofs.Yteamkjblpglliaa
open Go.RowKit Go.SL Go.HL
section
variable (fr:Nat->Bool)
def gY (k:Nat):List Nat:=(List.range k).filter fr
theorem iY (k:Nat):gY fr (k+1)=gY fr k++if fr k then [k] else []:=by
 unfold gY
 rw [List.range_succ,List.filter_append]
 cases h:fr k<;>simp [h]
theorem Ny {k u:Nat}:u∈gY fr k <-> u<k/\fr u=true:=by simp [gY]
theorem rZ (k:Nat):(gY fr k).length<=k:=by
 unfold gY
 have:=List.length_filter_le fr (List.range k)
 simpa using this
theorem EN (k:Nat):(gY fr k).Pairwise (·<·):=List.Pairwise.filter _ List.pairwise_lt_range
theorem BL {i:Nat}:∀d,∃r,gY fr (i+d)=gY fr i++r
 | 0=>⟨[],by simp⟩
 | d+1=>by
  obtain ⟨r,h⟩:=BL d
  exact ⟨r++if fr (i+d) then [i+d] else [],by rw [show i+(d+1)=(i+d)+1 by omega,iY,h,List.append_assoc]⟩
theorem xH {n u:Nat} (hu:u<n) (hf:fr u=true):(gY fr n).getD (gY fr u).length 0=u:=by
 obtain ⟨r,h⟩:=BL fr (i:=u+1) (n - (u+1))
 rw [show u+1+(n - (u+1))=n by omega,iY,if_pos hf] at h
 rw [h]
 simp
theorem vO {n u:Nat} (hu:u<n) (hf:fr u=true):(gY fr u).length<(gY fr n).length:=by
 obtain ⟨r,h⟩:=BL fr (i:=u+1) (n - (u+1))
 rw [show u+1+(n - (u+1))=n by omega,iY,if_pos hf] at h
 rw [h]
 simp
theorem Qx {l:List Nat} (h:l.Pairwise (·<·)) {i j:Nat} (hi:i<l.length) (hj:j<l.length) (e:l.getD i 0=l.getD j 0):i=j:=by
 rw [gW hi,gW hj] at e
 rcases Nat.lt_trichotomy i j with h1|h1|h1
 ·have:=List.pairwise_iff_getElem.1 h i j hi hj h1;omega
 ·exact h1
 ·have:=List.pairwise_iff_getElem.1 h j i hj hi h1;omega
theorem rH {n m:Nat} (hm:m<(gY fr n).length):(gY fr n).getD m 0<n/\fr ((gY fr n).getD m 0)=true/\(gY fr ((gY fr n).getD m 0)).length=m:=by
 have h1:(gY fr n).getD m 0∈gY fr n:=getD_mem _ m 0 hm
 obtain ⟨h2,h3⟩:=(Ny fr).1 h1
 refine ⟨h2,h3,?_⟩
 exact Qx (EN fr n) (vO fr h2 h3) hm (xH fr h2 h3)
theorem MB {u v:Nat} (h:u<v) (hf:fr u=true):(gY fr u).length<(gY fr v).length:=vO fr h hf
end
def Cf (w:List Int) (fr:Nat->Bool) (n:Nat):List Int:=(gY fr n).map fun i=>w.getD i 0
def frX (X:List Bool) (fr:Nat->Bool) (n:Nat):List Bool:=(gY fr n).map fun i=>X.getD i false
def JQ (nd:List (List Nat)) (inn:List Bool) (fr:Nat->Bool) (n:Nat):List (List Nat):=(gY fr n).map fun i=>((nd.getD i []).filter fun k=>!inn.getD k false).map fun k=>(gY fr k).length
theorem ve (w:List Int) (fr:Nat->Bool) (n:Nat):(Cf w fr n).length=(gY fr n).length:=by simp [Cf]
theorem uK (X:List Bool) (fr:Nat->Bool) (n:Nat):(frX X fr n).length=(gY fr n).length:=by simp [frX]
theorem lL (nd:List (List Nat)) (inn:List Bool) (fr:Nat->Bool) (n:Nat):(JQ nd inn fr n).length=(gY fr n).length:=by simp [JQ]
theorem Hl (w:List Int) (fr:Nat->Bool) (n:Nat) {m:Nat} (hm:m<(gY fr n).length):(Cf w fr n).getD m 0=w.getD ((gY fr n).getD m 0) 0:=by
 rw [gW (by rw [ve];exact hm),gW hm];simp [Cf]
theorem Ih (X:List Bool) (fr:Nat->Bool) (n:Nat) {m:Nat} (hm:m<(gY fr n).length):(frX X fr n).getD m false=X.getD ((gY fr n).getD m 0) false:=by
 rw [gW (by rw [uK];exact hm),gW hm];simp [frX]
theorem uy (nd:List (List Nat)) (inn:List Bool) (fr:Nat->Bool) (n:Nat) {m:Nat} (hm:m<(gY fr n).length):(JQ nd inn fr n).getD m []=((nd.getD ((gY fr n).getD m 0) []).filter fun k=>!inn.getD k false).map fun k=>(gY fr k).length:=by
 rw [gW (by rw [lL];exact hm),gW hm];simp [JQ]
theorem Cj {w w':List Int} {X X':List Bool}:∀n,(∀k,k<n->w.getD k 0=w'.getD k 0/\X.getD k false=X'.getD k false)->wS w X n=wS w' X' n
 | 0,_=>rfl
 | n+1,h=>by
  simp only [wS]
  rw [Cj n fun k hk=>h k (by omega),(h n (by omega)).1,(h n (by omega)).2]
theorem Ci {w:List Int} {X inn:List Bool} {fr:Nat->Bool}:∀n,(∀k,k<n->fr k=false->X.getD k false=inn.getD k false)->(∀k,k<n->fr k=true->inn.getD k false=false) ->
  wS w X n=wS w inn n+wS (Cf w fr n) (frX X fr n) (gY fr n).length
 | 0,_,_=>rfl
 | n+1,h1,h2=>by
  have ih:=Ci (w:=w) (X:=X) (inn:=inn) (fr:=fr) n (fun k hk=>h1 k (by omega)) (fun k hk=>h2 k (by omega))
  simp only [wS]
  cases hf:fr n with
  | true =>
   rw [h2 n (by omega) hf]
   have hL:gY fr (n+1)=gY fr n++[n]:=by rw [iY,if_pos hf]
   have hl:(gY fr (n+1)).length=(gY fr n).length+1:=by rw [hL];simp
   have e1:Cf w fr (n+1)=Cf w fr n++[w.getD n 0]:=by simp [Cf,hL]
   have e2:frX X fr (n+1)=frX X fr n++[X.getD n false]:=by simp [frX,hL]
   rw [hl]
   simp only [wS]
   have c1:wS (Cf w fr (n+1)) (frX X fr (n+1)) (gY fr n).length=wS (Cf w fr n) (frX X fr n) (gY fr n).length:=Cj _ fun k hk=>by
    rw [e1,e2]
    constructor
    ·rw [List.getD_eq_getElem?_getD,List.getElem?_append_left (by rw [ve];exact hk),List.getD_eq_getElem?_getD]
    ·rw [List.getD_eq_getElem?_getD,List.getElem?_append_left (by rw [uK];exact hk),List.getD_eq_getElem?_getD]
   have g1:(Cf w fr (n+1)).getD (gY fr n).length 0=w.getD n 0:=by rw [e1,<- ve w fr n];simp
   have g2:(frX X fr (n+1)).getD (gY fr n).length false=X.getD n false:=by rw [e2,<- uK X fr n];simp
   rw [c1,g1,g2,ih]
   simp only [Bool.false_eq_true,if_false]
   omega
  | false =>
   have hL:gY fr (n+1)=gY fr n:=by rw [iY,hf];simp
   have e1:Cf w fr (n+1)=Cf w fr n:=by simp [Cf,hL]
   have e2:frX X fr (n+1)=frX X fr n:=by simp [frX,hL]
   rw [hL,e1,e2,h1 n (by omega) hf,ih]
   omega
def free (inn out:List Bool) (k:Nat):Bool:=!inn.getD k false&&!out.getD k false
theorem AX {nd:List (List Nat)} {bad inn out:List Bool} (g:Gr nd bad) (hup:Oz nd out) {u:Nat} (hu:u<nd.length) (hf:free inn out u=true) {k:Nat} (hk:k∈nd.getD u []) (hin:inn.getD k false=false):k<nd.length/\free inn out k=true:=by
 refine ⟨g.lt _ _ hk,?_⟩
 cases ho:out.getD k false with
 | true =>
  have h1:=hup u k hu hk ho
  have h4:free inn out u=(!inn.getD u false&&!out.getD u false):=rfl
  rw [h4,h1] at hf
  simp at hf
 | false=>unfold free;rw [hin,ho];rfl
theorem UF {nd:List (List Nat)} {bad inn out:List Bool} (g:Gr nd bad) (hup:Oz nd out):Gr (JQ nd inn (free inn out) nd.length) (List.replicate (JQ nd inn (free inn out) nd.length).length false):=by
 have one:∀m,m<(gY (free inn out) nd.length).length->∀k∈nd.getD ((gY (free inn out) nd.length).getD m 0) [],inn.getD k false=false->k<nd.length/\free inn out k=true:=fun m hm k hk hin =>
  AX g hup (rH (free inn out) hm).1 (rH (free inn out) hm).2.1 hk hin
 refine ⟨?_,by simp,fun i j hj=>?_,fun i=>?_⟩
 ·rw [lL];have:=rZ (free inn out) nd.length;have:=g.size;omega
 ·by_cases hi:i<(gY (free inn out) nd.length).length
  ·rw [uy nd inn _ _ hi] at hj
   obtain ⟨k,hk,rfl⟩:=List.mem_map.1 hj
   simp only [List.mem_filter,Bool.not_eq_true'] at hk
   obtain ⟨h1,h2⟩:=one i hi k hk.1 hk.2
   rw [lL]
   exact vO _ h1 h2
  ·rw [List.getD_eq_getElem?_getD,List.getElem?_eq_none (by rw [lL];omega)] at hj;cases hj
 ·by_cases hi:i<(gY (free inn out) nd.length).length
  ·rw [uy nd inn _ _ hi,List.pairwise_map]
   refine ((g.sorted _).filter _).imp_of_mem ?_
   intro a b ha hb hab
   simp only [List.mem_filter,Bool.not_eq_true'] at ha
   exact MB _ hab (one i hi a ha.1 ha.2).2
  ·rw [List.getD_eq_getElem?_getD,List.getElem?_eq_none (by rw [lL];omega)];exact .nil
theorem EK {nd:List (List Nat)} {bad inn out X:List Bool} (g:Gr nd bad) (hup:Oz nd out) (hX:dH nd X):dH (JQ nd inn (free inn out) nd.length) (frX X (free inn out) nd.length):=by
 intro m hm j hj
 by_cases hml:m<(gY (free inn out) nd.length).length
 ·obtain ⟨h1,h2,_⟩:=rH (free inn out) hml
  rw [Ih _ _ _ hml] at hm
  rw [uy nd inn _ _ hml] at hj
  obtain ⟨k,hk,rfl⟩:=List.mem_map.1 hj
  simp only [List.mem_filter,Bool.not_eq_true'] at hk
  obtain ⟨h3,h4⟩:=AX g hup h1 h2 hk.1 hk.2
  rw [Ih _ _ _ (vO _ h3 h4),xH _ h3 h4]
  exact hX _ hm k hk.1
 ·rw [List.getD_eq_getElem?_getD,List.getElem?_eq_none (by rw [uK];omega)] at hm;cases hm
def Eh (inn out S:List Bool) (n:Nat):List Bool:=(List.range n).map fun k=>if free inn out k then S.getD (gY (free inn out) k).length false else inn.getD k false
theorem DV (inn out S:List Bool) (n:Nat):(Eh inn out S n).length=n:=by simp [Eh]
theorem CP (inn out S:List Bool) {n k:Nat} (hk:k<n):(Eh inn out S n).getD k false=if free inn out k then S.getD (gY (free inn out) k).length false else inn.getD k false:=by
 rw [gW (by rw [DV];exact hk)];simp [Eh]
theorem Dy {nd:List (List Nat)} {bad inn out S:List Bool} (g:Gr nd bad) (hup:Oz nd out) (hi:dH nd inn) (hil:inn.length=nd.length) (hS:dH (JQ nd inn (free inn out) nd.length) S):dH nd (Eh inn out S nd.length):=by
 intro u hu k hk
 have hun:u<nd.length:=by
  by_cases h:u<nd.length
  ·exact h
  ·rw [List.getD_eq_getElem?_getD,List.getElem?_eq_none (by omega)] at hk;cases hk
 have hkn:=g.lt _ _ hk
 rw [CP _ _ _ hun] at hu
 rw [CP _ _ _ hkn]
 cases hin:inn.getD k false with
 | true =>
  have:free inn out k=false:=by unfold free;rw [hin];rfl
  rw [this];rfl
 | false =>
  cases hf:free inn out u with
  | true =>
   rw [hf,if_pos rfl] at hu
   obtain ⟨h3,h4⟩:=AX g hup hun hf hk hin
   rw [h4,if_pos rfl]
   have hml:=vO _ hun hf
   refine hS _ hu _ ?_
   rw [uy nd inn _ _ hml,xH _ hun hf]
   exact List.mem_map.2 ⟨k,by simp only [List.mem_filter,Bool.not_eq_true'];exact ⟨hk,hin⟩,rfl⟩
  | false =>
   rw [hf,if_neg (by simp)] at hu
   have:=hi u hu k hk
   rw [hin] at this;cases this
structure L8 (w:List Int) (nd:List (List Nat)) (inn out A:List Bool) (v:Int):Prop where
 len:A.length=nd.length
 closed:dH nd A
 bd : -((nd.length:Int)*2147483648)<=v/\v<=(nd.length:Int)*2147483648
 most:∀X:List Bool,X.length=nd.length->dH nd X->(∀u:Nat,inn.getD u false=true->X.getD u false=true)->(∀u:Nat,out.getD u false=true->X.getD u false=false)->wS w X nd.length<=wS w inn nd.length+v
theorem L6 {w:List Int} (hw:WOK w) (fr:Nat->Bool) (n:Nat):WOK (Cf w fr n):=fun m=>by
 by_cases hm:m<(gY fr n).length
 ·rw [Hl _ _ _ hm];exact hw _
 ·rw [List.getD_eq_getElem?_getD,List.getElem?_eq_none (by rw [ve];omega)];simp
theorem Nz {w:List Int} {nd:List (List Nat)} {bad inn out S:List Bool} (g:Gr nd bad) (hw:WOK w) (hup:Oz nd out) (hi:dH nd inn) (hil:inn.length=nd.length) (hS:mO (Cf w (free inn out) nd.length) (JQ nd inn (free inn out) nd.length) S) :
  L8 w nd inn out (Eh inn out S nd.length) (wS (Cf w (free inn out) nd.length) S (JQ nd inn (free inn out) nd.length).length):=by
 refine ⟨DV _ _ _ _,Dy g hup hi hil hS.closed,?_,fun X hX hXc h1 h2=>?_⟩
 ·have h:=sW (L6 hw (free inn out) nd.length) S (JQ nd inn (free inn out) nd.length).length
  have:=rZ (free inn out) nd.length
  rw [lL] at h ⊢
  omega
 ·have h3:=hS.most (frX X (free inn out) nd.length) (by rw [uK,lL]) (EK g hup hXc)
  have h4:=Ci (w:=w) (X:=X) (inn:=inn) (fr:=free inn out) nd.length (fun k _ hf=>by
   unfold free at hf
   cases hik:inn.getD k false with
   | true=>exact h1 k hik
   | false =>
    rw [hik] at hf
    simp only [Bool.not_false,Bool.true_and,Bool.not_eq_false'] at hf
    exact h2 k hf) (fun k _ hf=>by
   unfold free at hf
   simp only [Bool.and_eq_true,Bool.not_eq_true'] at hf
   exact hf.1)
  rw [lL] at h3 ⊢
  omega
end Go.Proofs.Yteamkjblpglliaa
end
