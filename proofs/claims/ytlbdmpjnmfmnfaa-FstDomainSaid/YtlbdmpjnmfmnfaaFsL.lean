import Derived.Test.YtlbdmpjnmfmnfaaFsK
import Derived.Test.YtlbdmpjnmfmnfaaHlW
set_option linter.unusedSimpArgs false
set_option linter.unusedVariables false
set_option maxHeartbeats 16000000
namespace Go.Proofs.Ytlbdmpjnmfmnfaa
open Go.RowKit Go.HL Go.FS
def wO (u:List Int):HV:=if u=[] then .nils else .osl 1 u.length (HL.ints u)
def nP (q:List Int×List Nd):List HV:=[wO q.1,.osl 2 q.2.length (BP q.2)]
def Dy (q:List Int×List Nd):List HV:=[wR q.1,.sl q.2.length (BP q.2)]
theorem Zg (u:List Int):fH (wR u)=true:=by unfold wR;split<;>rfl
theorem aap (u:List Int):cellV (wR u)=true:=by unfold wR;split<;>rfl
theorem XI (u:List Int):(wR u).strip=wR u:=by
 unfold wR;split
 ·rfl
 ·simp [HV.strip,HL.ints_strip]
theorem X5 (u:List Int):(wO u).strip=wR u:=by
 unfold wO wR;split
 ·rfl
 ·simp [HV.strip,HL.ints_strip]
theorem pRR:Rec Dy 2:=⟨fun _=>rfl,fun q=>by show (fH (wR q.1)&&(true&&true))=true;rw [Zg];rfl,fun q=>by show (cellV (wR q.1)&&(true&&true))=true;rw [aap];rfl,fun q=>by simp [Dy,stripL,XI,HV.strip,DT]⟩
theorem NQ (l:List (List Int×List Nd)):(recs nP l).length=l.length*2:=by
 simp only [recs]
 induction l with
 | nil=>rfl
 | cons q l ih=>simp only [List.flatMap_cons,dQ,ih,nP,List.length_cons,List.length_nil];omega
theorem N8 (l:List (List Int×List Nd)):win (recs nP l) 0 (l.length*2)=recs nP l:=dw _ (NQ l).symm
theorem P6 (l:List (List Int×List Nd)):stripL (recs nP l)=recs Dy l:=by
 have app:∀a b:List HV,stripL (a++b)=stripL a++stripL b:=fun a b=>by
  induction a with
  | nil=>rfl
  | cons x a ih=>simp [stripL,ih]
 simp only [recs]
 induction l with
 | nil=>rfl
 | cons q l ih=>rw [List.flatMap_cons,app,ih,List.flatMap_cons];simp [nP,Dy,stripL,X5,HV.strip,DT]
theorem U5 (l:List (List Int×List Nd)):stripL (win (recs nP l) 0 (l.length*2))=recs Dy l:=by rw [N8,P6]
theorem Q3 {l:List (List Int×List Nd)} (h:∀q∈l,q.1≠[]):recs mF l=recs nP l:=by
 simp only [recs]
 induction l with
 | nil=>rfl
 | cons q l ih =>
  rw [List.flatMap_cons,List.flatMap_cons,ih fun q hq=>h q (by simp [hq])]
  have:=h q (by simp)
  simp [mF,nP,wO,this]
@[simp] theorem aci (l:List (List Int×List Nd)):gW (recs mF l)=true:=by
 simp only [recs,gW]
 rw [zl016]
 intro x hx
 obtain ⟨q,_,hq⟩:=zl055.1 hx
 simp only [mF,zl011,F9,or_false] at hq
 rcases hq with rfl|rfl<;>rfl
theorem KT {fin:List Bool} {al:List A} {w u v:List Int} (h:v∈ext fin al w u):v≠[]:=by
 simp only [ext,zl058,zl020] at h
 obtain ⟨⟨s,_,rfl⟩,_⟩:=h
 simp
theorem FQ (fin:List Bool) (al:List A) (w u:List Int):(ext fin al w u).length<=64:=by
 unfold ext
 refine sU (List.length_filter_le _ _) ?_
 simp
def wds (l:List (List Int)):List HV:=l.map wR
theorem ZV (l:List (List Int)):(wds l).length=l.length:=by simp [wds]
theorem WB (l:List (List Int)):win (wds l) 0 l.length=wds l:=dw _ (by simp [wds])
theorem NL (l:List (List Int)) (u:List Int):wds l++[wR u]=wds (l++[u]):=by simp [wds]
theorem We (l:List (List Int×List Nd)):(recs Dy l).length=l.length*2:=wX pRR l
attribute [go_sem] We NQ N8 ZV WB
theorem Ue (w:List Int) (LF:List (List A)) (G:List Nd):stripL [.sl w.length (HL.ints w),.osl 1 LF.length (dV LF),.omap ⟨.ints 2,none⟩ (G.map pk) (qh G.length)]=runT w LF G:=by
 have ht:∀n,stripL (qh n)=qh n:=fun n=>by
  induction n with
  | zero=>rfl
  | succ n ih=>simpa [qh,Hr,stripL,HV.strip] using ih
 simp [stripL,HV.strip,HL.ints_strip,nO,runT,DZ,ht]
theorem JK (fin:List Bool) (al:List A):stripL (dR fin al)=dR fin al:=by simp [dR,fU,stripL,HV.strip,HL.bools_strip,jO]
def apR (fin:List Bool) (al:List A) (w:List Int) (most:Int) (r:HV):Prop :=
 (∃l,Lst fin al w most l/\r=.tup [.osl 1 l.length (wds l),.int .i64 0])\/((∀l,¬ Lst fin al w most l)/\r=.tup [.osl 1 0 [],.int .i64 4])
theorem FX (fin:List Bool) (al:List A) (w:List Int) (G:List Nd) (most:Int) (lv:List (List Int×List Nd)) (LF:List (List A)) (hLF:aT (·.f) fin.length al=LF) (hv:okF fin al=true) (hw:w.length<=1024) (hm1:1<=most) (hm2:most<=64) (hG:∀x,x∈G <-> FS.Good fin al w x) (hGl:G.length<=4194304) (hlv:lv.map (·.1)=sH fin al w 0) (hrw:∀q∈lv,Row fin al w G.length q) :
  hx Try.prog [.c (.loop Xj),.b 0,.c XH] (finish [6,7] (apR fin al w most))
   ⟨[(2,.int .i64 most),(3,.pref 0 [] 0),(4,.pref 1 [] 0),(8,.ptr [.sl w.length (HL.ints w),.sl LF.length (dH LF),.rmap ⟨.ints 2,none⟩ (G.map pk) (qh G.length)] 0),(9,.ref 2 [] 2 0 lv.length),(10,.ref 3 [] 1 0 0),(11,.int .i64 0)],[(0,.optr (dR fin al)),(1,.optr [.sl w.length (HL.ints w)]),(2,.osl 2 lv.length (recs nP lv)),(3,.osl 1 0 [])],4⟩:=by
 have hk:Eh al:=fun a ha=>by have:=gu hv ha;omega
 have hin:∀a∈al,0<=a.f/\a.f<fin.length:=fun a ha=>by have:=gu hv ha;omega
 refine aF [2,3,4,8,9,10,11] (fun s:Nat×List (List Int×List Nd)×List (List Int)=>s.2.1.map (·.1)=sH fin al w s.1/\(∀q∈s.2.1,Row fin al w G.length q)/\s.2.2=upto fin al w s.1/\(s.2.2.length:Int)<=most/\(s.2.1.length:Int)<=64/\s.1<=G.length+1)
  (fun s=>⟨[(2,.int .i64 most),(3,.pref 0 [] 0),(4,.pref 1 [] 0),(8,.ptr [.sl w.length (HL.ints w),.sl LF.length (dH LF),.rmap ⟨.ints 2,none⟩ (G.map pk) (qh G.length)] 0),(9,.ref 2 [] 2 0 s.2.1.length),(10,.ref 3 [] 1 0 s.2.2.length),(11,.int .i64 s.1)],[(0,.optr (dR fin al)),(1,.optr [.sl w.length (HL.ints w)]),(2,.osl 2 s.2.1.length (recs nP s.2.1)),(3,.osl 1 s.2.2.length (wds s.2.2))],4⟩)
  (fun s=>G.length+2 - s.1) (0,lv,[]) ⟨hlv,hrw,rfl,by simp;omega,?_,by simp⟩ rfl ?_
 ·have:lv.length=(sH fin al w 0).length:=by rw [<- hlv,List.length_map]
  simp only [this]
  unfold sH
  split<;>simp
 rintro ⟨d,lv,ws⟩ ⟨hlv,hrw,hws,hwl,hll,hd⟩
 simp only at hlv hrw hws hwl hll hd ⊢
 by_cases hn:0<lv.length
 ·have har:=AR.start hlv hrw
  rw [<- hws] at har
  have hdeep:=fun h l=>ZT (most:=most) (m:=0) hk hG hlv hn h l
  refine zF ⟨?_⟩
  refine aP 2 [2,3,4,8,10,11,12,53,54,55] ⟨[(2,.int .i64 most),(3,.pref 0 [] 0),(4,.pref 1 [] 0),(8,.ptr [.sl w.length (HL.ints w),.sl LF.length (dH LF),.rmap ⟨.ints 2,none⟩ (G.map pk) (qh G.length)] 0),(10,.ref 2 [] 1 0 ws.length),(11,.int .i64 d),(12,.ref 3 [] 2 0 0),(53,.sl lv.length (recs Dy lv)),(54,.int .i64 lv.length),(55,.int .i64 0)],[(0,.optr (dR fin al)),(1,.optr [.sl w.length (HL.ints w)]),(2,.osl 1 ws.length (wds ws)),(3,.osl 2 0 [])],4⟩ (by rw [<- U5 lv];rfl) ?_
  refine aF [2,3,4,8,10,11,12,53,54,55] (fun s:Nat×List (List Int)×List (List Int×List Nd)=>s.1<=lv.length/\AR fin al w G.length d lv s.1 s.2.1 s.2.2/\(s.2.1.length:Int)<=most/\(s.2.2.length:Int)<=most/\(0<s.1->d<=G.length))
   (fun s=>⟨[(2,.int .i64 most),(3,.pref 0 [] 0),(4,.pref 1 [] 0),(8,.ptr [.sl w.length (HL.ints w),.sl LF.length (dH LF),.rmap ⟨.ints 2,none⟩ (G.map pk) (qh G.length)] 0),(10,.ref 2 [] 1 0 s.2.1.length),(11,.int .i64 d),(12,.ref 3 [] 2 0 s.2.2.length),(53,.sl lv.length (recs Dy lv)),(54,.int .i64 lv.length),(55,.int .i64 s.1)],[(0,.optr (dR fin al)),(1,.optr [.sl w.length (HL.ints w)]),(2,.osl 1 s.2.1.length (wds s.2.1)),(3,.osl 2 s.2.2.length (recs nP s.2.2))],4⟩)
   (fun s=>lv.length - s.1) (0,ws,[]) ⟨by simp,har,hwl,by simp;omega,by simp⟩ rfl ?_
  rintro ⟨k,ws,nxt⟩ ⟨hk0,har,hwl,hnl,hdk⟩
  simp only at hk0 har hwl hnl hdk ⊢
  by_cases hkl:k<lv.length
  ·have hqm:lv.getD k default∈lv:=by rw [bf,bn hkl];exact iD _
   have hq:=hrw _ hqm
   have hql:(lv.getD k default).1.length=d:=Wn (fin:=fin) (w:=w) hk (by rw [<- hlv];exact AP hqm)
   have hwn:=y8 pRR lv hkl
   simp only [Dy] at hwn
   have hstp:=fun rows wds'=>har.step (rows:=rows) (wds':=wds') hkl
   generalize hqe:lv.getD k default=q at hwn hq hql hstp hqm
   obtain ⟨u,S⟩:=q
   simp only at hwn hql hstp
   have hSt:=hq.at_
   have hSl:=hq.len
   simp only at hSt hSl
   have hSi:∀x∈S,U8 fin.length w x:=fun x hx=>Df hin ((hSt x).1 hx).good
   have hout:=Zv hSt hSi
   have hany:=TV fin al w S hSi hw (by omega)
   have hlong:=fun W hW=>TC fin al w G S u W hW hv hw hG hGl hSt (by omega) (by omega)
   rw [hLF] at hlong
   simp only [runT] at hlong
   by_cases hu:u=[]
   ·have hlong':=hlong .nils (.inl ⟨rfl,hu⟩)
    have hwr:wR u=.nils:=by rw [wR,if_pos hu]
    rw [hwr] at hwn
    have hsn:=NL ws u
    rw [hwr] at hsn
    refine fP @hwn ⟨?_⟩
    refine tY aG ?_
    refine zF ⟨?_⟩
    refine aX aG (zW @JK) (hany) ?_
    rintro _ rfl
    cases hb:S.any (DJ fin w)
    ·have hno:¬ Out fin al w u:=fun h=>by rw [hout.1 h] at hb;cases hb
     refine zG ⟨?_⟩
     refine zF ⟨?_⟩
     refine aX aG bz (hlong') ?_
     rintro _ ⟨rows,rfl,hrows,hrrow⟩
     refine zG ⟨?_⟩
     have hrl:rows.length<=64:=by
      have:=FQ fin al w u
      rw [<- hrows,List.length_map] at this
      exact this
     have hox:recs nP nxt++recs mF rows=recs nP (nxt++rows):=by
      rw [Q3 fun q hq=>KT (fin:=fin) (al:=al) (w:=w) (u:=u) (by rw [<- hrows];exact AP hq),Dc]
     have hln:(nxt++rows).length=nxt.length+rows.length:=by simp
     have har':=hstp rows ws hrows hrrow (by rw [if_neg hno])
     have hmo:=fun l (hl:Lst fin al w most l)=>har'.mst hk hl
     by_cases l2:most<((nxt.length+rows.length:Nat):Int)
     ·refine fP @hox ⟨?_⟩
      refine ae ?_
      exact .inr ⟨fun l hl=>by have:=(hmo l hl).2;rw [hln] at this;omega,rfl⟩
     by_cases l3:(G.length:Int)<(d:Int)
     ·refine fP @hox ⟨?_⟩
      refine ae ?_
      exact .inr ⟨fun l=>hdeep (by omega) l,rfl⟩
     refine fP @hox ⟨?_⟩
     exact aV [2,3,4,8,10,11,12,53,54,55] (k+1,ws,nxt++rows) ⟨hkl,har',by exact hwl,by simp only [hln];omega,fun _=>by omega⟩ iQ (by simp only [hln];rfl)
    ·have hyes:=hout.2 hb
     refine zG ⟨?_⟩
     refine fP @hsn ⟨?_⟩
     refine aX aG bz (hlong') ?_
     rintro _ ⟨rows,rfl,hrows,hrrow⟩
     refine zG ⟨?_⟩
     have hrl:rows.length<=64:=by
      have:=FQ fin al w u
      rw [<- hrows,List.length_map] at this
      exact this
     have hox:recs nP nxt++recs mF rows=recs nP (nxt++rows):=by
      rw [Q3 fun q hq=>KT (fin:=fin) (al:=al) (w:=w) (u:=u) (by rw [<- hrows];exact AP hq),Dc]
     have hln:(nxt++rows).length=nxt.length+rows.length:=by simp
     have hwn1:(ws++[u]).length=ws.length+1:=by simp
     have har':=hstp rows (ws++[u]) hrows hrrow (by rw [if_pos hyes])
     have hmo:=fun l (hl:Lst fin al w most l)=>har'.mst hk hl
     by_cases l1:most<((ws.length+1:Nat):Int)
     ·refine fP @hox ⟨?_⟩
      refine ae ?_
      exact .inr ⟨fun l hl=>by have:=(hmo l hl).1;rw [hwn1] at this;omega,rfl⟩
     by_cases l2:most<((nxt.length+rows.length:Nat):Int)
     ·refine fP @hox ⟨?_⟩
      refine ae ?_
      exact .inr ⟨fun l hl=>by have:=(hmo l hl).2;rw [hln] at this;omega,rfl⟩
     by_cases l3:(G.length:Int)<(d:Int)
     ·refine fP @hox ⟨?_⟩
      refine ae ?_
      exact .inr ⟨fun l=>hdeep (by omega) l,rfl⟩
     refine fP @hox ⟨?_⟩
     exact aV [2,3,4,8,10,11,12,53,54,55] (k+1,ws++[u],nxt++rows) ⟨hkl,har',by simp only [hwn1];omega,by simp only [hln];omega,fun _=>by omega⟩ iQ (by simp only [hln,hwn1];rfl)
   ·have hlong':=hlong (.sl u.length (HL.ints u)) (.inr ⟨rfl,List.length_pos_iff.2 hu⟩)
    have hwr:wR u=.sl u.length (HL.ints u):=by rw [wR,if_neg hu]
    rw [hwr] at hwn
    have hsn:=NL ws u
    rw [hwr] at hsn
    refine fP @hwn ⟨?_⟩
    refine tY aG ?_
    refine zF ⟨?_⟩
    refine aX aG (zW @JK) (hany) ?_
    rintro _ rfl
    cases hb:S.any (DJ fin w)
    ·have hno:¬ Out fin al w u:=fun h=>by rw [hout.1 h] at hb;cases hb
     refine zG ⟨?_⟩
     refine zF ⟨?_⟩
     refine aX aG bz (hlong') ?_
     rintro _ ⟨rows,rfl,hrows,hrrow⟩
     refine zG ⟨?_⟩
     have hrl:rows.length<=64:=by
      have:=FQ fin al w u
      rw [<- hrows,List.length_map] at this
      exact this
     have hox:recs nP nxt++recs mF rows=recs nP (nxt++rows):=by
      rw [Q3 fun q hq=>KT (fin:=fin) (al:=al) (w:=w) (u:=u) (by rw [<- hrows];exact AP hq),Dc]
     have hln:(nxt++rows).length=nxt.length+rows.length:=by simp
     have har':=hstp rows ws hrows hrrow (by rw [if_neg hno])
     have hmo:=fun l (hl:Lst fin al w most l)=>har'.mst hk hl
     by_cases l2:most<((nxt.length+rows.length:Nat):Int)
     ·refine fP @hox ⟨?_⟩
      refine ae ?_
      exact .inr ⟨fun l hl=>by have:=(hmo l hl).2;rw [hln] at this;omega,rfl⟩
     by_cases l3:(G.length:Int)<(d:Int)
     ·refine fP @hox ⟨?_⟩
      refine ae ?_
      exact .inr ⟨fun l=>hdeep (by omega) l,rfl⟩
     refine fP @hox ⟨?_⟩
     exact aV [2,3,4,8,10,11,12,53,54,55] (k+1,ws,nxt++rows) ⟨hkl,har',by exact hwl,by simp only [hln];omega,fun _=>by omega⟩ iQ (by simp only [hln];rfl)
    ·have hyes:=hout.2 hb
     refine zG ⟨?_⟩
     refine fP @hsn ⟨?_⟩
     refine aX aG bz (hlong') ?_
     rintro _ ⟨rows,rfl,hrows,hrrow⟩
     refine zG ⟨?_⟩
     have hrl:rows.length<=64:=by
      have:=FQ fin al w u
      rw [<- hrows,List.length_map] at this
      exact this
     have hox:recs nP nxt++recs mF rows=recs nP (nxt++rows):=by
      rw [Q3 fun q hq=>KT (fin:=fin) (al:=al) (w:=w) (u:=u) (by rw [<- hrows];exact AP hq),Dc]
     have hln:(nxt++rows).length=nxt.length+rows.length:=by simp
     have hwn1:(ws++[u]).length=ws.length+1:=by simp
     have har':=hstp rows (ws++[u]) hrows hrrow (by rw [if_pos hyes])
     have hmo:=fun l (hl:Lst fin al w most l)=>har'.mst hk hl
     by_cases l1:most<((ws.length+1:Nat):Int)
     ·refine fP @hox ⟨?_⟩
      refine ae ?_
      exact .inr ⟨fun l hl=>by have:=(hmo l hl).1;rw [hwn1] at this;omega,rfl⟩
     by_cases l2:most<((nxt.length+rows.length:Nat):Int)
     ·refine fP @hox ⟨?_⟩
      refine ae ?_
      exact .inr ⟨fun l hl=>by have:=(hmo l hl).2;rw [hln] at this;omega,rfl⟩
     by_cases l3:(G.length:Int)<(d:Int)
     ·refine fP @hox ⟨?_⟩
      refine ae ?_
      exact .inr ⟨fun l=>hdeep (by omega) l,rfl⟩
     refine fP @hox ⟨?_⟩
     exact aV [2,3,4,8,10,11,12,53,54,55] (k+1,ws++[u],nxt++rows) ⟨hkl,har',by simp only [hwn1];omega,by simp only [hln];omega,fun _=>by omega⟩ iQ (by simp only [hln,hwn1];rfl)
  ·obtain rfl:k=lv.length:=by omega
   have hdn:=har.done (aY _)
   refine zF ⟨?_⟩
   exact aV [2,3,4,8,9,10,11] (d+1,nxt,ws) ⟨hdn.2,har.nrow,hdn.1,hwl,by simp only;omega,by have:=hdk hn;simp only;omega⟩ (by have:=hdk hn;simp only;omega) rfl
 ·obtain rfl:lv=[]:=List.length_eq_zero_iff.1 (by omega)
  have hle:sH fin al w d=[]:=by rw [<- hlv];rfl
  subst hws
  have hl:=aab hle hwl
  refine zF ⟨?_⟩
  refine ae ?_
  exact .inl ⟨_,hl,rfl⟩
end Go.Proofs.Ytlbdmpjnmfmnfaa
