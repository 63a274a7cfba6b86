import Derived.Test.YtlbdmpjnmfmnfaaFsK
import Derived.Test.YtlbdmpjnmfmnfaaFsB
set_option linter.unusedSimpArgs false
set_option linter.unusedVariables false
set_option maxHeartbeats 16000000
namespace Go.Proofs.Ytlbdmpjnmfmnfaa
open Go.RowKit Go.HL Go.FS
def wO (u:List Int):HV:=if u=[] then .nils else .osl 1 u.length (HL.ints u)
def nY (q:List Int×List Nd):List HV:=[wO q.1,.osl 2 q.2.length (Bq q.2)]
def BB (q:List Int×List Nd):List HV:=[wR q.1,.sl q.2.length (Bq q.2)]
theorem ZI (u:List Int):gJ (wR u)=true:=by unfold wR;split<;>rfl
theorem aaw (u:List Int):cellV (wR u)=true:=by unfold wR;split<;>rfl
theorem Yk (u:List Int):(wR u).strip=wR u:=by
 unfold wR;split
 ·rfl
 ·simp [HV.strip,HL.ints_strip]
theorem NF (u:List Int):(wO u).strip=wR u:=by
 unfold wO wR;split
 ·rfl
 ·simp [HV.strip,HL.ints_strip]
theorem pRR:Rec BB 2:=⟨fun _=>rfl,fun q=>by show (gJ (wR q.1)&&(true&&true))=true;rw [ZI];rfl,fun q=>by show (cellV (wR q.1)&&(true&&true))=true;rw [aaw];rfl,fun q=>by simp [BB,stripL,Yk,HV.strip,DY]⟩
theorem MX (l:List (List Int×List Nd)):(recs nY l).length=l.length*2:=by
 simp only [recs]
 induction l with
 | nil=>rfl
 | cons q l ih=>simp only [List.flatMap_cons,bD,ih,nY,List.length_cons,List.length_nil];omega
theorem Pz (l:List (List Int×List Nd)):win (recs nY l) 0 (l.length*2)=recs nY l:=eG _ (MX l).symm
theorem QN (l:List (List Int×List Nd)):stripL (recs nY l)=recs BB l:=by
 have app:∀a b:List HV,stripL (a++b)=stripL a++stripL b:=fun a b=>by
  induction a with
  | nil=>rfl
  | cons x a ih=>simp [stripL,ih]
 simp only [recs]
 induction l with
 | nil=>rfl
 | cons q l ih=>rw [List.flatMap_cons,app,ih,List.flatMap_cons];simp [nY,BB,stripL,NF,HV.strip,DY]
theorem Vm (l:List (List Int×List Nd)):stripL (win (recs nY l) 0 (l.length*2))=recs BB l:=by rw [Pz,QN]
theorem Tc {l:List (List Int×List Nd)} (h:∀q∈l,q.1≠[]):recs nC l=recs nY l:=by
 simp only [recs]
 induction l with
 | nil=>rfl
 | cons q l ih =>
  rw [List.flatMap_cons,List.flatMap_cons,ih fun q hq=>h q (by simp [hq])]
  have:=h q (by simp)
  simp [nC,nY,wO,this]
@[simp] theorem ac0 (l:List (List Int×List Nd)):fH (recs nC l)=true:=by
 simp only [recs,fH]
 rw [zl021]
 intro x hx
 obtain ⟨q,_,hq⟩:=zl065.1 hx
 simp only [nC,zl011,GM,or_false] at hq
 rcases hq with rfl|rfl<;>rfl
theorem J8 {fin:List Bool} {al:List A} {w u v:List Int} (h:v∈ext fin al w u):v≠[]:=by
 simp only [ext,zl042,zl031] at h
 obtain ⟨⟨s,_,rfl⟩,_⟩:=h
 simp
theorem E5 (fin:List Bool) (al:List A) (w u:List Int):(ext fin al w u).length<=64:=by
 unfold ext
 refine jc (List.length_filter_le _ _) ?_
 simp
def wds (l:List (List Int)):List HV:=l.map wR
theorem ZC (l:List (List Int)):(wds l).length=l.length:=by simp [wds]
theorem Ti (l:List (List Int)):win (wds l) 0 (l.length*1)=wds l:=eG _ (by simp [wds])
theorem X3 (l:List (List Int)):win (wds l) 0 l.length=wds l:=eG _ (by simp [wds])
theorem FW (l:List (List Int)) (u:List Int):wds l++[wR u]=wds (l++[u]):=by simp [wds]
theorem Wq (l:List (List Int×List Nd)):(recs BB l).length=l.length*2:=vw pRR l
attribute [go_sem] Wq MX Pz ZC Ti X3
theorem UJ (w:List Int) (LF:List (List A)) (G:List Nd):stripL [.sl w.length (HL.ints w),.osl 1 LF.length (dw LF),.omap ⟨.ints 2,none⟩ (G.map pk) (qC G.length)]=runT w LF G:=by
 have ht:∀n,stripL (qC n)=qC n:=fun n=>by
  induction n with
  | zero=>rfl
  | succ n ih=>simpa [qC,xB,stripL,HV.strip] using ih
 simp [stripL,HV.strip,HL.ints_strip,ku,runT,Em,ht]
theorem Jo (fin:List Bool) (al:List A):stripL (dE fin al)=dE fin al:=by simp [dE,fB,stripL,HV.strip,HL.bools_strip,gQ]
def apR (fin:List Bool) (al:List A) (w:List Int) (most:Int) (r:HV):Prop :=
 (∃l,Lst fin al w most l/\r=.tup [.osl 1 l.length (wds l),.int .i64 0])\/((∀l,¬ Lst fin al w most l)/\r=.tup [.osl 1 0 [],.int .i64 4])
theorem G5 (fin:List Bool) (al:List A) (w:List Int) (G:List Nd) (most:Int) (lv:List (List Int×List Nd)) (LF:List (List A)) (hLF:aG (·.f) fin.length al=LF) (hv:okF fin al=true) (hw:w.length<=1024) (hm1:1<=most) (hm2:most<=64) (hG:∀x,x∈G <-> FS.Good fin al w x) (hGl:G.length<=4194304) (hlv:lv.map (·.1)=rf fin al w 0) (hrw:∀q∈lv,Row fin al w G.length q) :
  hx Try.prog [.c (.loop YA),.b 0,.c V5] (finish [6,7] (apR fin al w most))
   ⟨[(2,.int .i64 most),(3,.pref 0 [] 0),(4,.pref 1 [] 0),(8,.ptr [.sl w.length (HL.ints w),.sl LF.length (bF LF),.rmap ⟨.ints 2,none⟩ (G.map pk) (qC G.length)] 0),(9,.ref 2 [] 2 0 lv.length),(10,.ref 3 [] 1 0 0),(11,.int .i64 0)],[(0,.optr (dE fin al)),(1,.optr [.sl w.length (HL.ints w)]),(2,.osl 2 lv.length (recs nY lv)),(3,.osl 1 0 [])],4⟩:=by
 have hk:Eb al:=fun a ha=>by have:=cu hv ha;omega
 have hin:∀a∈al,0<=a.f/\a.f<fin.length:=fun a ha=>by have:=cu hv ha;omega
 refine aI [2,3,4,8,9,10,11] (fun s:Nat×List (List Int×List Nd)×List (List Int)=>s.2.1.map (·.1)=rf fin al w s.1/\(∀q∈s.2.1,Row fin al w G.length q)/\s.2.2=upto fin al w s.1/\(s.2.2.length:Int)<=most/\(s.2.1.length:Int)<=64/\s.1<=G.length+1)
  (fun s=>⟨[(2,.int .i64 most),(3,.pref 0 [] 0),(4,.pref 1 [] 0),(8,.ptr [.sl w.length (HL.ints w),.sl LF.length (bF LF),.rmap ⟨.ints 2,none⟩ (G.map pk) (qC G.length)] 0),(9,.ref 2 [] 2 0 s.2.1.length),(10,.ref 3 [] 1 0 s.2.2.length),(11,.int .i64 s.1)],[(0,.optr (dE fin al)),(1,.optr [.sl w.length (HL.ints w)]),(2,.osl 2 s.2.1.length (recs nY s.2.1)),(3,.osl 1 s.2.2.length (wds s.2.2))],4⟩)
  (fun s=>G.length+2 - s.1) (0,lv,[]) ⟨hlv,hrw,rfl,by simp;omega,?_,by simp⟩ rfl ?_
 ·have:lv.length=(rf fin al w 0).length:=by rw [<- hlv,List.length_map]
  simp only [this]
  unfold rf
  split<;>simp
 rintro ⟨d,lv,ws⟩ ⟨hlv,hrw,hws,hwl,hll,hd⟩
 simp only at hlv hrw hws hwl hll hd ⊢
 by_cases hn:0<lv.length
 ·have har:=AR.start hlv hrw
  rw [<- hws] at har
  have hdeep:=fun h l=>TP (most:=most) (m:=0) hk hG hlv hn h l
  refine zF ⟨?_⟩
  refine az 2 [2,3,4,8,10,11,12,53,54,55] ⟨[(2,.int .i64 most),(3,.pref 0 [] 0),(4,.pref 1 [] 0),(8,.ptr [.sl w.length (HL.ints w),.sl LF.length (bF LF),.rmap ⟨.ints 2,none⟩ (G.map pk) (qC G.length)] 0),(10,.ref 2 [] 1 0 ws.length),(11,.int .i64 d),(12,.ref 3 [] 2 0 0),(53,.sl lv.length (recs BB lv)),(54,.int .i64 lv.length),(55,.int .i64 0)],[(0,.optr (dE fin al)),(1,.optr [.sl w.length (HL.ints w)]),(2,.osl 1 ws.length (wds ws)),(3,.osl 2 0 [])],4⟩ (by rw [<- Vm lv];rfl) ?_
  refine aI [2,3,4,8,10,11,12,53,54,55] (fun s:Nat×List (List Int)×List (List Int×List Nd)=>s.1<=lv.length/\AR fin al w G.length d lv s.1 s.2.1 s.2.2/\(s.2.1.length:Int)<=most/\(s.2.2.length:Int)<=most/\(0<s.1->d<=G.length))
   (fun s=>⟨[(2,.int .i64 most),(3,.pref 0 [] 0),(4,.pref 1 [] 0),(8,.ptr [.sl w.length (HL.ints w),.sl LF.length (bF LF),.rmap ⟨.ints 2,none⟩ (G.map pk) (qC G.length)] 0),(10,.ref 2 [] 1 0 s.2.1.length),(11,.int .i64 d),(12,.ref 3 [] 2 0 s.2.2.length),(53,.sl lv.length (recs BB lv)),(54,.int .i64 lv.length),(55,.int .i64 s.1)],[(0,.optr (dE fin al)),(1,.optr [.sl w.length (HL.ints w)]),(2,.osl 1 s.2.1.length (wds s.2.1)),(3,.osl 2 s.2.2.length (recs nY s.2.2))],4⟩)
   (fun s=>lv.length - s.1) (0,ws,[]) ⟨by simp,har,hwl,by simp;omega,by simp⟩ rfl ?_
  rintro ⟨k,ws,nxt⟩ ⟨hk0,har,hwl,hnl,hdk⟩
  simp only at hk0 har hwl hnl hdk ⊢
  by_cases hkl:k<lv.length
  ·have hqm:lv.getD k default∈lv:=by rw [bH,bM hkl];exact gy _
   have hq:=hrw _ hqm
   have hql:(lv.getD k default).1.length=d:=Mc (fin:=fin) (w:=w) hk (by rw [<- hlv];exact Aa hqm)
   have hwn:=y7 pRR lv hkl
   simp only [BB] at hwn
   have hstp:=fun rows wds'=>har.step (rows:=rows) (wds':=wds') hkl
   generalize hqe:lv.getD k default=q at hwn hq hql hstp hqm
   obtain ⟨u,S⟩:=q
   simp only at hwn hql hstp
   have hSt:=hq.at_
   have hSl:=hq.len
   simp only at hSt hSl
   have hSi:∀x∈S,Ah fin.length w x:=fun x hx=>kX hin ((hSt x).1 hx).good
   have hout:=Td hSt hSi
   have hany:=Uu fin al w S hSi hw (by omega)
   have hlong:=fun W hW=>UU fin al w G S u W hW hv hw hG hGl hSt (by omega) (by omega)
   rw [hLF] at hlong
   simp only [runT] at hlong
   by_cases hu:u=[]
   ·have hlong':=hlong .nils (.inl ⟨rfl,hu⟩)
    have hwr:wR u=.nils:=by rw [wR,if_pos hu]
    rw [hwr] at hwn
    have hsn:=FW ws u
    rw [hwr] at hsn
    refine eH @hwn ⟨?_⟩
    refine yu ay ?_
    refine zF ⟨?_⟩
    refine aF ay (zW @Jo) (hany) ?_
    rintro _ rfl
    cases hb:S.any (rD fin w)
    ·have hno:¬ Out fin al w u:=fun h=>by rw [hout.1 h] at hb;cases hb
     refine zG ⟨?_⟩
     refine zF ⟨?_⟩
     refine aF ay aK (hlong') ?_
     rintro _ ⟨rows,rfl,hrows,hrrow⟩
     refine zG ⟨?_⟩
     have hrl:rows.length<=64:=by
      have:=E5 fin al w u
      rw [<- hrows,List.length_map] at this
      exact this
     have hox:recs nY nxt++recs nC rows=recs nY (nxt++rows):=by
      rw [Tc fun q hq=>J8 (fin:=fin) (al:=al) (w:=w) (u:=u) (by rw [<- hrows];exact Aa hq),mF]
     have hln:(nxt++rows).length=nxt.length+rows.length:=by simp
     have har':=hstp rows ws hrows hrrow (by rw [if_neg hno])
     have hmo:=fun l (hl:Lst fin al w most l)=>har'.mst hk hl
     by_cases l2:most<((nxt.length+rows.length:Nat):Int)
     ·refine eH @hox ⟨?_⟩
      refine ae ?_
      exact .inr ⟨fun l hl=>by have:=(hmo l hl).2;rw [hln] at this;omega,rfl⟩
     by_cases l3:(G.length:Int)<(d:Int)
     ·refine eH @hox ⟨?_⟩
      refine ae ?_
      exact .inr ⟨fun l=>hdeep (by omega) l,rfl⟩
     refine eH @hox ⟨?_⟩
     exact aP [2,3,4,8,10,11,12,53,54,55] (k+1,ws,nxt++rows) ⟨hkl,har',by exact hwl,by simp only [hln];omega,fun _=>by omega⟩ dL (by simp only [hln];rfl)
    ·have hyes:=hout.2 hb
     refine zG ⟨?_⟩
     refine eH @hsn ⟨?_⟩
     refine aF ay aK (hlong') ?_
     rintro _ ⟨rows,rfl,hrows,hrrow⟩
     refine zG ⟨?_⟩
     have hrl:rows.length<=64:=by
      have:=E5 fin al w u
      rw [<- hrows,List.length_map] at this
      exact this
     have hox:recs nY nxt++recs nC rows=recs nY (nxt++rows):=by
      rw [Tc fun q hq=>J8 (fin:=fin) (al:=al) (w:=w) (u:=u) (by rw [<- hrows];exact Aa hq),mF]
     have hln:(nxt++rows).length=nxt.length+rows.length:=by simp
     have hwn1:(ws++[u]).length=ws.length+1:=by simp
     have har':=hstp rows (ws++[u]) hrows hrrow (by rw [if_pos hyes])
     have hmo:=fun l (hl:Lst fin al w most l)=>har'.mst hk hl
     by_cases l1:most<((ws.length+1:Nat):Int)
     ·refine eH @hox ⟨?_⟩
      refine ae ?_
      exact .inr ⟨fun l hl=>by have:=(hmo l hl).1;rw [hwn1] at this;omega,rfl⟩
     by_cases l2:most<((nxt.length+rows.length:Nat):Int)
     ·refine eH @hox ⟨?_⟩
      refine ae ?_
      exact .inr ⟨fun l hl=>by have:=(hmo l hl).2;rw [hln] at this;omega,rfl⟩
     by_cases l3:(G.length:Int)<(d:Int)
     ·refine eH @hox ⟨?_⟩
      refine ae ?_
      exact .inr ⟨fun l=>hdeep (by omega) l,rfl⟩
     refine eH @hox ⟨?_⟩
     exact aP [2,3,4,8,10,11,12,53,54,55] (k+1,ws++[u],nxt++rows) ⟨hkl,har',by simp only [hwn1];omega,by simp only [hln];omega,fun _=>by omega⟩ dL (by simp only [hln,hwn1];rfl)
   ·have hlong':=hlong (.sl u.length (HL.ints u)) (.inr ⟨rfl,zl107.2 hu⟩)
    have hwr:wR u=.sl u.length (HL.ints u):=by rw [wR,if_neg hu]
    rw [hwr] at hwn
    have hsn:=FW ws u
    rw [hwr] at hsn
    refine eH @hwn ⟨?_⟩
    refine yu ay ?_
    refine zF ⟨?_⟩
    refine aF ay (zW @Jo) (hany) ?_
    rintro _ rfl
    cases hb:S.any (rD fin w)
    ·have hno:¬ Out fin al w u:=fun h=>by rw [hout.1 h] at hb;cases hb
     refine zG ⟨?_⟩
     refine zF ⟨?_⟩
     refine aF ay aK (hlong') ?_
     rintro _ ⟨rows,rfl,hrows,hrrow⟩
     refine zG ⟨?_⟩
     have hrl:rows.length<=64:=by
      have:=E5 fin al w u
      rw [<- hrows,List.length_map] at this
      exact this
     have hox:recs nY nxt++recs nC rows=recs nY (nxt++rows):=by
      rw [Tc fun q hq=>J8 (fin:=fin) (al:=al) (w:=w) (u:=u) (by rw [<- hrows];exact Aa hq),mF]
     have hln:(nxt++rows).length=nxt.length+rows.length:=by simp
     have har':=hstp rows ws hrows hrrow (by rw [if_neg hno])
     have hmo:=fun l (hl:Lst fin al w most l)=>har'.mst hk hl
     by_cases l2:most<((nxt.length+rows.length:Nat):Int)
     ·refine eH @hox ⟨?_⟩
      refine ae ?_
      exact .inr ⟨fun l hl=>by have:=(hmo l hl).2;rw [hln] at this;omega,rfl⟩
     by_cases l3:(G.length:Int)<(d:Int)
     ·refine eH @hox ⟨?_⟩
      refine ae ?_
      exact .inr ⟨fun l=>hdeep (by omega) l,rfl⟩
     refine eH @hox ⟨?_⟩
     exact aP [2,3,4,8,10,11,12,53,54,55] (k+1,ws,nxt++rows) ⟨hkl,har',by exact hwl,by simp only [hln];omega,fun _=>by omega⟩ dL (by simp only [hln];rfl)
    ·have hyes:=hout.2 hb
     refine zG ⟨?_⟩
     refine eH @hsn ⟨?_⟩
     refine aF ay aK (hlong') ?_
     rintro _ ⟨rows,rfl,hrows,hrrow⟩
     refine zG ⟨?_⟩
     have hrl:rows.length<=64:=by
      have:=E5 fin al w u
      rw [<- hrows,List.length_map] at this
      exact this
     have hox:recs nY nxt++recs nC rows=recs nY (nxt++rows):=by
      rw [Tc fun q hq=>J8 (fin:=fin) (al:=al) (w:=w) (u:=u) (by rw [<- hrows];exact Aa hq),mF]
     have hln:(nxt++rows).length=nxt.length+rows.length:=by simp
     have hwn1:(ws++[u]).length=ws.length+1:=by simp
     have har':=hstp rows (ws++[u]) hrows hrrow (by rw [if_pos hyes])
     have hmo:=fun l (hl:Lst fin al w most l)=>har'.mst hk hl
     by_cases l1:most<((ws.length+1:Nat):Int)
     ·refine eH @hox ⟨?_⟩
      refine ae ?_
      exact .inr ⟨fun l hl=>by have:=(hmo l hl).1;rw [hwn1] at this;omega,rfl⟩
     by_cases l2:most<((nxt.length+rows.length:Nat):Int)
     ·refine eH @hox ⟨?_⟩
      refine ae ?_
      exact .inr ⟨fun l hl=>by have:=(hmo l hl).2;rw [hln] at this;omega,rfl⟩
     by_cases l3:(G.length:Int)<(d:Int)
     ·refine eH @hox ⟨?_⟩
      refine ae ?_
      exact .inr ⟨fun l=>hdeep (by omega) l,rfl⟩
     refine eH @hox ⟨?_⟩
     exact aP [2,3,4,8,10,11,12,53,54,55] (k+1,ws++[u],nxt++rows) ⟨hkl,har',by simp only [hwn1];omega,by simp only [hln];omega,fun _=>by omega⟩ dL (by simp only [hln,hwn1];rfl)
  ·obtain rfl:k=lv.length:=by omega
   have hdn:=har.done (bg _)
   refine zF ⟨?_⟩
   exact aP [2,3,4,8,9,10,11] (d+1,nxt,ws) ⟨hdn.2,har.nrow,hdn.1,hwl,by simp only;omega,by have:=hdk hn;simp only;omega⟩ (by have:=hdk hn;simp only;omega) rfl
 ·obtain rfl:lv=[]:=List.length_eq_zero_iff.1 (by omega)
  have hle:rf fin al w d=[]:=by rw [<- hlv];rfl
  subst hws
  have hl:=RU hle hwl
  refine zF ⟨?_⟩
  refine ae ?_
  exact .inl ⟨_,hl,rfl⟩
end Go.Proofs.Ytlbdmpjnmfmnfaa
