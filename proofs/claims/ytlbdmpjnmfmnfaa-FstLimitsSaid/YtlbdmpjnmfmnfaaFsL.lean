import Derived.Test.YtlbdmpjnmfmnfaaFsK
set_option linter.unusedSimpArgs false
set_option linter.unusedVariables false
namespace Go.Proofs.Ytlbdmpjnmfmnfaa
open Go.RowKit Go.HL Go.FS
def wO (u:List Int):HV:=if u=[] then .nils else .osl 1 u.length (HL.ints u)
def jR (q:List Int×List Nd):List HV:=[wO q.1,.osl 2 q.2.length (nY q.2)]
def uo (q:List Int×List Nd):List HV:=[wR q.1,.sl q.2.length (nY q.2)]
theorem Qk (u:List Int):gp (wR u)=true:=by unfold wR;split<;>rfl
theorem Qr (u:List Int):cellV (wR u)=true:=by unfold wR;split<;>rfl
theorem ND (u:List Int):(wR u).strip=wR u:=by
 unfold wR;split
 ·rfl
 ·simp [HV.strip,HL.ints_strip]
theorem NY (u:List Int):(wO u).strip=wR u:=by
 unfold wO wR;split
 ·rfl
 ·simp [HV.strip,HL.ints_strip]
theorem pRR:Rec uo 2:=⟨fun _=>rfl,fun q=>by show (gp (wR q.1)&&(true&&true))=true;rw [Qk];rfl,fun q=>by show (cellV (wR q.1)&&(true&&true))=true;rw [Qr];rfl,fun q=>by simp [uo,stripL,ND,HV.strip,vw]⟩
theorem CX (l:List (List Int×List Nd)):(recs jR l).length=l.length*2:=by
 simp only [recs]
 induction l with
 | nil=>rfl
 | cons q l ih=>simp only [List.flatMap_cons,List.length_append,ih,jR,List.length_cons,List.length_nil];omega
theorem BK (l:List (List Int×List Nd)):win (recs jR l) 0 (l.length*2)=recs jR l:=iI _ (CX l).symm
theorem FB (l:List (List Int×List Nd)):stripL (recs jR l)=recs uo l:=by
 have app:∀a b:List HV,stripL (a++b)=stripL a++stripL b:=fun a b=>by
  induction a with
  | nil=>rfl
  | cons x a ih=>simp [stripL,ih]
 simp only [recs]
 induction l with
 | nil=>rfl
 | cons q l ih=>rw [List.flatMap_cons,app,ih,List.flatMap_cons];simp [jR,uo,stripL,NY,HV.strip,vw]
theorem Ii (l:List (List Int×List Nd)):stripL (win (recs jR l) 0 (l.length*2))=recs uo l:=by rw [BK,FB]
theorem FP {l:List (List Int×List Nd)} (h:∀q∈l,q.1≠[]):recs jI l=recs jR l:=by
 simp only [recs]
 induction l with
 | nil=>rfl
 | cons q l ih =>
  rw [List.flatMap_cons,List.flatMap_cons,ih fun q hq=>h q (by simp [hq])]
  have:=h q (by simp)
  simp [jI,jR,wO,this]
@[simp] theorem U9 (l:List (List Int×List Nd)):fZ (recs jI l)=true:=by
 simp only [recs,fZ]
 rw [List.all_eq_true]
 intro x hx
 obtain ⟨q,_,hq⟩:=List.mem_flatMap.1 hx
 simp only [jI,List.mem_cons,List.not_mem_nil,or_false] at hq
 rcases hq with rfl|rfl<;>rfl
theorem Am {fin:List Bool} {al:List A} {w u v:List Int} (h:v∈ext fin al w u):v≠[]:=by
 simp only [ext,List.mem_filter,List.mem_map] at h
 obtain ⟨⟨s,_,rfl⟩,_⟩:=h
 simp
theorem wG (fin:List Bool) (al:List A) (w u:List Int):(ext fin al w u).length<=64:=by
 unfold ext
 refine Nat.le_trans (List.length_filter_le _ _) ?_
 simp
def wds (l:List (List Int)):List HV:=l.map wR
theorem Qp (l:List (List Int)):(wds l).length=l.length:=by simp [wds]
theorem JJ (l:List (List Int)):win (wds l) 0 l.length=wds l:=iI _ (by simp [wds])
theorem DW (l:List (List Int)) (u:List Int):wds l++[wR u]=wds (l++[u]):=by simp [wds]
theorem MR (l:List (List Int×List Nd)):(recs uo l).length=l.length*2:=oK pRR l
attribute [go_sem] MR CX BK Qp JJ
theorem IY (w:List Int) (LF:List (List A)) (G:List Nd):stripL [.sl w.length (HL.ints w),.osl 1 LF.length (fM LF),.omap ⟨.ints 2,none⟩ (G.map pk) (kT G.length)]=runT w LF G:=by
 have ht:∀n,stripL (kT n)=kT n:=fun n=>by
  induction n with
  | zero=>rfl
  | succ n ih=>simpa [kT,List.replicate_succ,stripL,HV.strip] using ih
 simp [stripL,HV.strip,HL.ints_strip,lG,runT,uT,ht]
theorem zy (fin:List Bool) (al:List A):stripL (iF fin al)=iF fin al:=by simp [iF,jJ,stripL,HV.strip,HL.bools_strip,iR]
def ZI (fin:List Bool) (al:List A) (w:List Int) (most:Int) (r:HV):Prop :=
 (∃l,Lst fin al w most l/\r=.tup [.osl 1 l.length (wds l),.int .i64 0])\/((∀l,¬ Lst fin al w most l)/\r=.tup [.osl 1 0 [],.int .i64 4])
set_option maxHeartbeats 16000000 in
theorem xO (fin:List Bool) (al:List A) (w:List Int) (G:List Nd) (most:Int) (lv:List (List Int×List Nd)) (LF:List (List A)) (hLF:bD (·.f) fin.length al=LF) (hv:okF fin al=true) (hw:w.length<=1024) (hm1:1<=most) (hm2:most<=64) (hG:∀x,x∈G <-> FS.Good fin al w x) (hGl:G.length<=4194304) (hlv:lv.map (·.1)=mQ fin al w 0) (hrw:∀q∈lv,Row fin al w G.length q) :
  hx Try.prog [.c (.loop MW),.b 0,.c MP] (finish [6,7] (ZI fin al w most))
   ⟨[(2,.int .i64 most),(3,.pref 0 [] 0),(4,.pref 1 [] 0),(8,.ptr [.sl w.length (HL.ints w),.sl LF.length (eU LF),.rmap ⟨.ints 2,none⟩ (G.map pk) (kT G.length)] 0),(9,.ref 2 [] 2 0 lv.length),(10,.ref 3 [] 1 0 0),(11,.int .i64 0)],[(0,.optr (iF fin al)),(1,.optr [.sl w.length (HL.ints w)]),(2,.osl 2 lv.length (recs jR lv)),(3,.osl 1 0 [])],4⟩:=by
 have hk:vU al:=fun a ha=>by have:=fD hv ha;omega
 have hin:∀a∈al,0<=a.f/\a.f<fin.length:=fun a ha=>by have:=fD hv ha;omega
 refine dn [2,3,4,8,9,10,11] (fun s:Nat×List (List Int×List Nd)×List (List Int)=>s.2.1.map (·.1)=mQ fin al w s.1/\(∀q∈s.2.1,Row fin al w G.length q)/\s.2.2=upto fin al w s.1/\(s.2.2.length:Int)<=most/\(s.2.1.length:Int)<=64/\s.1<=G.length+1)
  (fun s=>⟨[(2,.int .i64 most),(3,.pref 0 [] 0),(4,.pref 1 [] 0),(8,.ptr [.sl w.length (HL.ints w),.sl LF.length (eU LF),.rmap ⟨.ints 2,none⟩ (G.map pk) (kT G.length)] 0),(9,.ref 2 [] 2 0 s.2.1.length),(10,.ref 3 [] 1 0 s.2.2.length),(11,.int .i64 s.1)],[(0,.optr (iF fin al)),(1,.optr [.sl w.length (HL.ints w)]),(2,.osl 2 s.2.1.length (recs jR s.2.1)),(3,.osl 1 s.2.2.length (wds s.2.2))],4⟩)
  (fun s=>G.length+2 - s.1) (0,lv,[]) ⟨hlv,hrw,rfl,by simp;omega,?_,by simp⟩ rfl ?_
 ·have:lv.length=(mQ fin al w 0).length:=by rw [<- hlv,List.length_map]
  simp only [this]
  unfold mQ
  split<;>simp
 rintro ⟨d,lv,ws⟩ ⟨hlv,hrw,hws,hwl,hll,hd⟩
 simp only at hlv hrw hws hwl hll hd ⊢
 by_cases hn:0<lv.length
 ·have har:=AR.start hlv hrw
  rw [<- hws] at har
  have hdeep:=fun h l=>Qa (most:=most) (m:=0) hk hG hlv hn h l
  repeat (first|refine ah ?_|refine af ?_|refine fG (by rfl) ?_|refine ax ?_|refine ak ?_|refine ae ?_|refine aK ?_|refine aI ?_|refine bK ?_|refine bP ?_)
  refine bU 2 [2,3,4,8,10,11,12,53,54,55] ⟨[(2,.int .i64 most),(3,.pref 0 [] 0),(4,.pref 1 [] 0),(8,.ptr [.sl w.length (HL.ints w),.sl LF.length (eU LF),.rmap ⟨.ints 2,none⟩ (G.map pk) (kT G.length)] 0),(10,.ref 2 [] 1 0 ws.length),(11,.int .i64 d),(12,.ref 3 [] 2 0 0),(53,.sl lv.length (recs uo lv)),(54,.int .i64 lv.length),(55,.int .i64 0)],[(0,.optr (iF fin al)),(1,.optr [.sl w.length (HL.ints w)]),(2,.osl 1 ws.length (wds ws)),(3,.osl 2 0 [])],4⟩ (by rw [<- Ii lv];rfl) ?_
  refine dn [2,3,4,8,10,11,12,53,54,55] (fun s:Nat×List (List Int)×List (List Int×List Nd)=>s.1<=lv.length/\AR fin al w G.length d lv s.1 s.2.1 s.2.2/\(s.2.1.length:Int)<=most/\(s.2.2.length:Int)<=most/\(0<s.1->d<=G.length))
   (fun s=>⟨[(2,.int .i64 most),(3,.pref 0 [] 0),(4,.pref 1 [] 0),(8,.ptr [.sl w.length (HL.ints w),.sl LF.length (eU LF),.rmap ⟨.ints 2,none⟩ (G.map pk) (kT G.length)] 0),(10,.ref 2 [] 1 0 s.2.1.length),(11,.int .i64 d),(12,.ref 3 [] 2 0 s.2.2.length),(53,.sl lv.length (recs uo lv)),(54,.int .i64 lv.length),(55,.int .i64 s.1)],[(0,.optr (iF fin al)),(1,.optr [.sl w.length (HL.ints w)]),(2,.osl 1 s.2.1.length (wds s.2.1)),(3,.osl 2 s.2.2.length (recs jR s.2.2))],4⟩)
   (fun s=>lv.length - s.1) (0,ws,[]) ⟨by simp,har,hwl,by simp;omega,by simp⟩ rfl ?_
  rintro ⟨k,ws,nxt⟩ ⟨hk0,har,hwl,hnl,hdk⟩
  simp only at hk0 har hwl hnl hdk ⊢
  by_cases hkl:k<lv.length
  ·have hqm:lv.getD k default∈lv:=by rw [List.getD_eq_getElem?_getD,List.getElem?_eq_getElem hkl];exact List.getElem_mem _
   have hq:=hrw _ hqm
   have hql:(lv.getD k default).1.length=d:=LH (fin:=fin) (w:=w) hk (by rw [<- hlv];exact List.mem_map_of_mem hqm)
   have hwn:=pX pRR lv hkl
   simp only [uo] at hwn
   have hstp:=fun rows wds'=>har.step (rows:=rows) (wds':=wds') hkl
   generalize hqe:lv.getD k default=q at hwn hq hql hstp hqm
   obtain ⟨u,S⟩:=q
   simp only at hwn hql hstp
   have hSt:=hq.at_
   have hSl:=hq.len
   simp only at hSt hSl
   have hSi:∀x∈S,JA fin.length w x:=fun x hx=>ui hin ((hSt x).1 hx).good
   have hout:=PD hSt hSi
   have hany:=I7 fin al w S hSi hw (by omega)
   have hlong:=fun W hW=>IA fin al w G S u W hW hv hw hG hGl hSt (by omega) (by omega)
   rw [hLF] at hlong
   simp only [runT] at hlong
   by_cases hu:u=[]
   ·have hlong':=hlong .nils (.inl ⟨rfl,hu⟩)
    have hwr:wR u=.nils:=by rw [wR,if_pos hu]
    rw [hwr] at hwn
    have hsn:=DW ws u
    rw [hwr] at hsn
    repeat (first|refine bu ?_|refine iG (by rfl) bQ (by (try simp (disch:=omega) only [go_sem,reduceIte,Nat.reduceEqDiff,Nat.reduceAdd,Nat.reduceMul,hwn]);try rfl) aQ (by (try simp (disch:=omega) only [go_sem,hwn]);try rfl) aJ ?_|refine af ?_|refine aF ?_|refine ax ?_|refine ak ?_|refine ae ?_|refine aK ?_|refine aI ?_|refine aH ?_|refine vJ (by rfl) aQ (by (try simp (disch:=omega) only [go_sem,reduceIte,Nat.reduceEqDiff,Nat.reduceAdd,Nat.reduceMul,hwn]);try rfl) ?_|refine lK (by rfl) aJ aO jh lS (by rfl) nC (by rfl) mV (by (try simp (disch:=omega) only [go_sem,reduceIte,Nat.reduceEqDiff,Nat.reduceAdd,Nat.reduceMul,hwn]);try rfl) aQ (by (try simp (disch:=omega) only [go_sem,hwn]);try rfl) aO jk ?_|refine bI dZ ?_)
    refine Aq bH ?_
    skip
    refine bT bH (by simp (disch:=omega) only [cZ,zy,HV.thaw,bV,aA,aG,if_true,if_false,reduceIte,Nat.reduceEqDiff,stripL,HV.strip,gu,fF,Nat.mul_one,List.cons_append,List.nil_append,List.append_nil,I,Bl,T3,List.getD_cons_zero,List.getD_cons_succ,HL.ints_strip,HL.bools_strip,fP];try rfl) (hany) ?_
    rintro _ rfl
    cases hb:S.any (vC fin w)
    ·have hno:¬ Out fin al w u:=fun h=>by rw [hout.1 h] at hb;cases hb
     refine ⟨bJ,_,_,_,_,_,gY,(by decide),bF,?_⟩
     repeat (first|refine ah ?_|refine af ?_|refine au ?_|refine ak ?_|refine ae ?_|refine aI ?_|refine gq ?_)
     refine bT bH dw (hlong') ?_
     rintro _ ⟨rows,rfl,hrows,hrrow⟩
     refine ⟨bJ,_,_,_,_,_,gY,(by decide),bF,?_⟩
     have hrl:rows.length<=64:=by
      have:=wG fin al w u
      rw [<- hrows,List.length_map] at this
      exact this
     have hox:recs jR nxt++recs jI rows=recs jR (nxt++rows):=by
      rw [FP fun q hq=>Am (fin:=fin) (al:=al) (w:=w) (u:=u) (by rw [<- hrows];exact List.mem_map_of_mem hq),lD]
     have hln:(nxt++rows).length=nxt.length+rows.length:=by simp
     have har':=hstp rows ws hrows hrrow (by rw [if_neg hno])
     have hmo:=fun l (hl:Lst fin al w most l)=>har'.mst hk hl
     by_cases l2:most<((nxt.length+rows.length:Nat):Int)
     ·repeat (first|refine ah ?_|refine aT ?_|refine dI ?_|refine af ?_|refine aU ?_|refine aS ?_|refine fG (by rfl) ?_|refine ax ?_|refine ak ?_|refine ae ?_|refine bK ?_|refine bP ?_|refine gZ dZ (by rfl) aJ sK kz bQ aO dZ (by omega) iC aQ (by (try simp (disch:=omega) only [go_sem,reduceIte,Nat.reduceEqDiff,Nat.reduceAdd,Nat.reduceMul,hox]);try rfl) aO (by rfl) ?_)
      refine ay ?_
      exact .inr ⟨fun l hl=>by have:=(hmo l hl).2;rw [hln] at this;omega,rfl⟩
     by_cases l3:(G.length:Int)<(d:Int)
     ·repeat (first|refine ah ?_|refine aT ?_|refine jf (by rfl) aQ (by (try simp (disch:=omega) only [go_sem,hox]);try rfl) ?_|refine af ?_|refine aS ?_|refine fG (by rfl) ?_|refine ax ?_|refine ak ?_|refine ae ?_|refine bK ?_|refine bP ?_|refine dh ?_|refine gZ dZ (by rfl) aJ sK kz bQ aO dZ (by omega) iC aQ (by (try simp (disch:=omega) only [go_sem,reduceIte,Nat.reduceEqDiff,Nat.reduceAdd,Nat.reduceMul,hox]);try rfl) aO (by rfl) ?_|refine nN (eV rfl) (by (try simp (disch:=omega) only [List.length_map,go_sem,reduceIte,Nat.reduceEqDiff,Nat.reduceAdd,Nat.reduceMul,hox]);try rfl) ?_|refine gX aJ rfl ?_)
      refine ay ?_
      exact .inr ⟨fun l=>hdeep (by omega) l,rfl⟩
     repeat (first|refine ah ?_|refine aT ?_|refine jf (by rfl) aQ (by (try simp (disch:=omega) only [go_sem,hox]);try rfl) ?_|refine af ?_|refine aS ?_|refine kF (by rfl) (by rfl) (by (try simp (disch:=omega) only [go_sem,Int.reduceAdd,Int.reduceSub,Int.reduceMul,hox]);try rfl) ?_|refine fG (by rfl) ?_|refine au ?_|refine ak ?_|refine ae ?_|refine gV ?_|refine aI ?_|refine bP ?_|refine dh ?_|refine gZ dZ (by rfl) aJ sK kz bQ aO dZ (by omega) iC aQ (by (try simp (disch:=omega) only [go_sem,reduceIte,Nat.reduceEqDiff,Nat.reduceAdd,Nat.reduceMul,hox]);try rfl) aO (by rfl) ?_|refine nN (eV rfl) (by (try simp (disch:=omega) only [List.length_map,go_sem,reduceIte,Nat.reduceEqDiff,Nat.reduceAdd,Nat.reduceMul,hox]);try rfl) ?_|refine gX aJ rfl ?_)
     exact dS [2,3,4,8,10,11,12,53,54,55] (k+1,ws,nxt++rows) ⟨hkl,har',by exact hwl,by simp only [hln];omega,fun _=>by omega⟩ iH (by simp only [hln];rfl)
    ·have hyes:=hout.2 hb
     refine ⟨bJ,_,_,_,_,_,gY,(by decide),bF,?_⟩
     repeat (first|refine ah ?_|refine iG (by rfl) bQ (by (try simp (disch:=omega) only [go_sem,reduceIte,Nat.reduceEqDiff,Nat.reduceAdd,Nat.reduceMul,hsn]);try rfl) aQ (by (try simp (disch:=omega) only [go_sem,hsn]);try rfl) aJ ?_|refine af ?_|refine ax ?_|refine ak ?_|refine ae ?_|refine aH ?_|refine iZ (by rfl) bQ aO aQ (by decide) (by (try simp (disch:=omega) only [go_sem,reduceIte,Nat.reduceEqDiff,Nat.reduceAdd,Nat.reduceMul,hsn]);try rfl) iM ?_|refine cO ?_|refine gZ dZ (by rfl) aJ sK kz bQ aO dZ (by omega) iC aQ (by (try simp (disch:=omega) only [go_sem,reduceIte,Nat.reduceEqDiff,Nat.reduceAdd,Nat.reduceMul,hsn]);try rfl) aO (by rfl) ?_)
     refine bT bH dw (hlong') ?_
     rintro _ ⟨rows,rfl,hrows,hrrow⟩
     refine ⟨bJ,_,_,_,_,_,gY,(by decide),bF,?_⟩
     have hrl:rows.length<=64:=by
      have:=wG fin al w u
      rw [<- hrows,List.length_map] at this
      exact this
     have hox:recs jR nxt++recs jI rows=recs jR (nxt++rows):=by
      rw [FP fun q hq=>Am (fin:=fin) (al:=al) (w:=w) (u:=u) (by rw [<- hrows];exact List.mem_map_of_mem hq),lD]
     have hln:(nxt++rows).length=nxt.length+rows.length:=by simp
     have hwn1:(ws++[u]).length=ws.length+1:=by simp
     have har':=hstp rows (ws++[u]) hrows hrrow (by rw [if_pos hyes])
     have hmo:=fun l (hl:Lst fin al w most l)=>har'.mst hk hl
     by_cases l1:most<((ws.length+1:Nat):Int)
     ·repeat (first|refine ah ?_|refine dI ?_|refine af ?_|refine aU ?_|refine fG (by rfl) ?_|refine ax ?_|refine ak ?_|refine ae ?_|refine bK ?_|refine bP ?_|refine gZ dZ (by rfl) aJ sK kz bQ aO dZ (by omega) iC aQ (by (try simp (disch:=omega) only [go_sem,reduceIte,Nat.reduceEqDiff,Nat.reduceAdd,Nat.reduceMul,hox]);try rfl) aO (by rfl) ?_)
      refine ay ?_
      exact .inr ⟨fun l hl=>by have:=(hmo l hl).1;rw [hwn1] at this;omega,rfl⟩
     by_cases l2:most<((nxt.length+rows.length:Nat):Int)
     ·repeat (first|refine ah ?_|refine aT ?_|refine dI ?_|refine af ?_|refine aU ?_|refine aS ?_|refine fG (by rfl) ?_|refine ax ?_|refine ak ?_|refine ae ?_|refine bK ?_|refine bP ?_|refine gZ dZ (by rfl) aJ sK kz bQ aO dZ (by omega) iC aQ (by (try simp (disch:=omega) only [go_sem,reduceIte,Nat.reduceEqDiff,Nat.reduceAdd,Nat.reduceMul,hox]);try rfl) aO (by rfl) ?_)
      refine ay ?_
      exact .inr ⟨fun l hl=>by have:=(hmo l hl).2;rw [hln] at this;omega,rfl⟩
     by_cases l3:(G.length:Int)<(d:Int)
     ·repeat (first|refine ah ?_|refine aT ?_|refine jf (by rfl) aQ (by (try simp (disch:=omega) only [go_sem,hox]);try rfl) ?_|refine af ?_|refine aS ?_|refine fG (by rfl) ?_|refine ax ?_|refine ak ?_|refine ae ?_|refine bK ?_|refine bP ?_|refine dh ?_|refine gZ dZ (by rfl) aJ sK kz bQ aO dZ (by omega) iC aQ (by (try simp (disch:=omega) only [go_sem,reduceIte,Nat.reduceEqDiff,Nat.reduceAdd,Nat.reduceMul,hox]);try rfl) aO (by rfl) ?_|refine nN (eV rfl) (by (try simp (disch:=omega) only [List.length_map,go_sem,reduceIte,Nat.reduceEqDiff,Nat.reduceAdd,Nat.reduceMul,hox]);try rfl) ?_|refine gX aJ rfl ?_)
      refine ay ?_
      exact .inr ⟨fun l=>hdeep (by omega) l,rfl⟩
     repeat (first|refine ah ?_|refine aT ?_|refine jf (by rfl) aQ (by (try simp (disch:=omega) only [go_sem,hox]);try rfl) ?_|refine af ?_|refine aS ?_|refine kF (by rfl) (by rfl) (by (try simp (disch:=omega) only [go_sem,Int.reduceAdd,Int.reduceSub,Int.reduceMul,hox]);try rfl) ?_|refine fG (by rfl) ?_|refine au ?_|refine ak ?_|refine ae ?_|refine gV ?_|refine aI ?_|refine bP ?_|refine dh ?_|refine gZ dZ (by rfl) aJ sK kz bQ aO dZ (by omega) iC aQ (by (try simp (disch:=omega) only [go_sem,reduceIte,Nat.reduceEqDiff,Nat.reduceAdd,Nat.reduceMul,hox]);try rfl) aO (by rfl) ?_|refine nN (eV rfl) (by (try simp (disch:=omega) only [List.length_map,go_sem,reduceIte,Nat.reduceEqDiff,Nat.reduceAdd,Nat.reduceMul,hox]);try rfl) ?_|refine gX aJ rfl ?_)
     exact dS [2,3,4,8,10,11,12,53,54,55] (k+1,ws++[u],nxt++rows) ⟨hkl,har',by simp only [hwn1];omega,by simp only [hln];omega,fun _=>by omega⟩ iH (by simp only [hln,hwn1];rfl)
   ·have hlong':=hlong (.sl u.length (HL.ints u)) (.inr ⟨rfl,List.length_pos_iff.2 hu⟩)
    have hwr:wR u=.sl u.length (HL.ints u):=by rw [wR,if_neg hu]
    rw [hwr] at hwn
    have hsn:=DW ws u
    rw [hwr] at hsn
    repeat (first|refine bu ?_|refine iG (by rfl) bQ (by (try simp (disch:=omega) only [go_sem,reduceIte,Nat.reduceEqDiff,Nat.reduceAdd,Nat.reduceMul,hwn]);try rfl) aQ (by (try simp (disch:=omega) only [go_sem,hwn]);try rfl) aJ ?_|refine af ?_|refine aF ?_|refine ax ?_|refine ak ?_|refine ae ?_|refine aK ?_|refine aI ?_|refine aH ?_|refine vJ (by rfl) aQ (by (try simp (disch:=omega) only [go_sem,reduceIte,Nat.reduceEqDiff,Nat.reduceAdd,Nat.reduceMul,hwn]);try rfl) ?_|refine lK (by rfl) aJ aO jh lS (by rfl) nC (by rfl) mV (by (try simp (disch:=omega) only [go_sem,reduceIte,Nat.reduceEqDiff,Nat.reduceAdd,Nat.reduceMul,hwn]);try rfl) aQ (by (try simp (disch:=omega) only [go_sem,hwn]);try rfl) aO jk ?_|refine bI dZ ?_)
    refine Aq bH ?_
    skip
    refine bT bH (by simp (disch:=omega) only [cZ,zy,HV.thaw,bV,aA,aG,if_true,if_false,reduceIte,Nat.reduceEqDiff,stripL,HV.strip,gu,fF,Nat.mul_one,List.cons_append,List.nil_append,List.append_nil,I,Bl,T3,List.getD_cons_zero,List.getD_cons_succ,HL.ints_strip,HL.bools_strip,fP];try rfl) (hany) ?_
    rintro _ rfl
    cases hb:S.any (vC fin w)
    ·have hno:¬ Out fin al w u:=fun h=>by rw [hout.1 h] at hb;cases hb
     refine ⟨bJ,_,_,_,_,_,gY,(by decide),bF,?_⟩
     repeat (first|refine ah ?_|refine af ?_|refine au ?_|refine ak ?_|refine ae ?_|refine aI ?_|refine gq ?_)
     refine bT bH dw (hlong') ?_
     rintro _ ⟨rows,rfl,hrows,hrrow⟩
     refine ⟨bJ,_,_,_,_,_,gY,(by decide),bF,?_⟩
     have hrl:rows.length<=64:=by
      have:=wG fin al w u
      rw [<- hrows,List.length_map] at this
      exact this
     have hox:recs jR nxt++recs jI rows=recs jR (nxt++rows):=by
      rw [FP fun q hq=>Am (fin:=fin) (al:=al) (w:=w) (u:=u) (by rw [<- hrows];exact List.mem_map_of_mem hq),lD]
     have hln:(nxt++rows).length=nxt.length+rows.length:=by simp
     have har':=hstp rows ws hrows hrrow (by rw [if_neg hno])
     have hmo:=fun l (hl:Lst fin al w most l)=>har'.mst hk hl
     by_cases l2:most<((nxt.length+rows.length:Nat):Int)
     ·repeat (first|refine ah ?_|refine aT ?_|refine dI ?_|refine af ?_|refine aU ?_|refine aS ?_|refine fG (by rfl) ?_|refine ax ?_|refine ak ?_|refine ae ?_|refine bK ?_|refine bP ?_|refine gZ dZ (by rfl) aJ sK kz bQ aO dZ (by omega) iC aQ (by (try simp (disch:=omega) only [go_sem,reduceIte,Nat.reduceEqDiff,Nat.reduceAdd,Nat.reduceMul,hox]);try rfl) aO (by rfl) ?_)
      refine ay ?_
      exact .inr ⟨fun l hl=>by have:=(hmo l hl).2;rw [hln] at this;omega,rfl⟩
     by_cases l3:(G.length:Int)<(d:Int)
     ·repeat (first|refine ah ?_|refine aT ?_|refine jf (by rfl) aQ (by (try simp (disch:=omega) only [go_sem,hox]);try rfl) ?_|refine af ?_|refine aS ?_|refine fG (by rfl) ?_|refine ax ?_|refine ak ?_|refine ae ?_|refine bK ?_|refine bP ?_|refine dh ?_|refine gZ dZ (by rfl) aJ sK kz bQ aO dZ (by omega) iC aQ (by (try simp (disch:=omega) only [go_sem,reduceIte,Nat.reduceEqDiff,Nat.reduceAdd,Nat.reduceMul,hox]);try rfl) aO (by rfl) ?_|refine nN (eV rfl) (by (try simp (disch:=omega) only [List.length_map,go_sem,reduceIte,Nat.reduceEqDiff,Nat.reduceAdd,Nat.reduceMul,hox]);try rfl) ?_|refine gX aJ rfl ?_)
      refine ay ?_
      exact .inr ⟨fun l=>hdeep (by omega) l,rfl⟩
     repeat (first|refine ah ?_|refine aT ?_|refine jf (by rfl) aQ (by (try simp (disch:=omega) only [go_sem,hox]);try rfl) ?_|refine af ?_|refine aS ?_|refine kF (by rfl) (by rfl) (by (try simp (disch:=omega) only [go_sem,Int.reduceAdd,Int.reduceSub,Int.reduceMul,hox]);try rfl) ?_|refine fG (by rfl) ?_|refine au ?_|refine ak ?_|refine ae ?_|refine gV ?_|refine aI ?_|refine bP ?_|refine dh ?_|refine gZ dZ (by rfl) aJ sK kz bQ aO dZ (by omega) iC aQ (by (try simp (disch:=omega) only [go_sem,reduceIte,Nat.reduceEqDiff,Nat.reduceAdd,Nat.reduceMul,hox]);try rfl) aO (by rfl) ?_|refine nN (eV rfl) (by (try simp (disch:=omega) only [List.length_map,go_sem,reduceIte,Nat.reduceEqDiff,Nat.reduceAdd,Nat.reduceMul,hox]);try rfl) ?_|refine gX aJ rfl ?_)
     exact dS [2,3,4,8,10,11,12,53,54,55] (k+1,ws,nxt++rows) ⟨hkl,har',by exact hwl,by simp only [hln];omega,fun _=>by omega⟩ iH (by simp only [hln];rfl)
    ·have hyes:=hout.2 hb
     refine ⟨bJ,_,_,_,_,_,gY,(by decide),bF,?_⟩
     repeat (first|refine ah ?_|refine iG (by rfl) bQ (by (try simp (disch:=omega) only [go_sem,reduceIte,Nat.reduceEqDiff,Nat.reduceAdd,Nat.reduceMul,hsn]);try rfl) aQ (by (try simp (disch:=omega) only [go_sem,hsn]);try rfl) aJ ?_|refine af ?_|refine ax ?_|refine ak ?_|refine ae ?_|refine aH ?_|refine iZ (by rfl) bQ aO aQ (by decide) (by (try simp (disch:=omega) only [go_sem,reduceIte,Nat.reduceEqDiff,Nat.reduceAdd,Nat.reduceMul,hsn]);try rfl) iM ?_|refine cO ?_|refine gZ dZ (by rfl) aJ sK kz bQ aO dZ (by omega) iC aQ (by (try simp (disch:=omega) only [go_sem,reduceIte,Nat.reduceEqDiff,Nat.reduceAdd,Nat.reduceMul,hsn]);try rfl) aO (by rfl) ?_)
     refine bT bH dw (hlong') ?_
     rintro _ ⟨rows,rfl,hrows,hrrow⟩
     refine ⟨bJ,_,_,_,_,_,gY,(by decide),bF,?_⟩
     have hrl:rows.length<=64:=by
      have:=wG fin al w u
      rw [<- hrows,List.length_map] at this
      exact this
     have hox:recs jR nxt++recs jI rows=recs jR (nxt++rows):=by
      rw [FP fun q hq=>Am (fin:=fin) (al:=al) (w:=w) (u:=u) (by rw [<- hrows];exact List.mem_map_of_mem hq),lD]
     have hln:(nxt++rows).length=nxt.length+rows.length:=by simp
     have hwn1:(ws++[u]).length=ws.length+1:=by simp
     have har':=hstp rows (ws++[u]) hrows hrrow (by rw [if_pos hyes])
     have hmo:=fun l (hl:Lst fin al w most l)=>har'.mst hk hl
     by_cases l1:most<((ws.length+1:Nat):Int)
     ·repeat (first|refine ah ?_|refine dI ?_|refine af ?_|refine aU ?_|refine fG (by rfl) ?_|refine ax ?_|refine ak ?_|refine ae ?_|refine bK ?_|refine bP ?_|refine gZ dZ (by rfl) aJ sK kz bQ aO dZ (by omega) iC aQ (by (try simp (disch:=omega) only [go_sem,reduceIte,Nat.reduceEqDiff,Nat.reduceAdd,Nat.reduceMul,hox]);try rfl) aO (by rfl) ?_)
      refine ay ?_
      exact .inr ⟨fun l hl=>by have:=(hmo l hl).1;rw [hwn1] at this;omega,rfl⟩
     by_cases l2:most<((nxt.length+rows.length:Nat):Int)
     ·repeat (first|refine ah ?_|refine aT ?_|refine dI ?_|refine af ?_|refine aU ?_|refine aS ?_|refine fG (by rfl) ?_|refine ax ?_|refine ak ?_|refine ae ?_|refine bK ?_|refine bP ?_|refine gZ dZ (by rfl) aJ sK kz bQ aO dZ (by omega) iC aQ (by (try simp (disch:=omega) only [go_sem,reduceIte,Nat.reduceEqDiff,Nat.reduceAdd,Nat.reduceMul,hox]);try rfl) aO (by rfl) ?_)
      refine ay ?_
      exact .inr ⟨fun l hl=>by have:=(hmo l hl).2;rw [hln] at this;omega,rfl⟩
     by_cases l3:(G.length:Int)<(d:Int)
     ·repeat (first|refine ah ?_|refine aT ?_|refine jf (by rfl) aQ (by (try simp (disch:=omega) only [go_sem,hox]);try rfl) ?_|refine af ?_|refine aS ?_|refine fG (by rfl) ?_|refine ax ?_|refine ak ?_|refine ae ?_|refine bK ?_|refine bP ?_|refine dh ?_|refine gZ dZ (by rfl) aJ sK kz bQ aO dZ (by omega) iC aQ (by (try simp (disch:=omega) only [go_sem,reduceIte,Nat.reduceEqDiff,Nat.reduceAdd,Nat.reduceMul,hox]);try rfl) aO (by rfl) ?_|refine nN (eV rfl) (by (try simp (disch:=omega) only [List.length_map,go_sem,reduceIte,Nat.reduceEqDiff,Nat.reduceAdd,Nat.reduceMul,hox]);try rfl) ?_|refine gX aJ rfl ?_)
      refine ay ?_
      exact .inr ⟨fun l=>hdeep (by omega) l,rfl⟩
     repeat (first|refine ah ?_|refine aT ?_|refine jf (by rfl) aQ (by (try simp (disch:=omega) only [go_sem,hox]);try rfl) ?_|refine af ?_|refine aS ?_|refine kF (by rfl) (by rfl) (by (try simp (disch:=omega) only [go_sem,Int.reduceAdd,Int.reduceSub,Int.reduceMul,hox]);try rfl) ?_|refine fG (by rfl) ?_|refine au ?_|refine ak ?_|refine ae ?_|refine gV ?_|refine aI ?_|refine bP ?_|refine dh ?_|refine gZ dZ (by rfl) aJ sK kz bQ aO dZ (by omega) iC aQ (by (try simp (disch:=omega) only [go_sem,reduceIte,Nat.reduceEqDiff,Nat.reduceAdd,Nat.reduceMul,hox]);try rfl) aO (by rfl) ?_|refine nN (eV rfl) (by (try simp (disch:=omega) only [List.length_map,go_sem,reduceIte,Nat.reduceEqDiff,Nat.reduceAdd,Nat.reduceMul,hox]);try rfl) ?_|refine gX aJ rfl ?_)
     exact dS [2,3,4,8,10,11,12,53,54,55] (k+1,ws++[u],nxt++rows) ⟨hkl,har',by simp only [hwn1];omega,by simp only [hln];omega,fun _=>by omega⟩ iH (by simp only [hln,hwn1];rfl)
  ·obtain rfl:k=lv.length:=by omega
   have hdn:=har.done (Nat.le_refl _)
   repeat (first|refine ah ?_|refine af ?_|refine aF ?_|refine bM ?_|refine bZ (by rfl) ?_|refine au ?_|refine ak ?_|refine ae ?_|refine gV ?_)
   exact dS [2,3,4,8,9,10,11] (d+1,nxt,ws) ⟨hdn.2,har.nrow,hdn.1,hwl,by simp only;omega,by have:=hdk hn;simp only;omega⟩ (by have:=hdk hn;simp only;omega) rfl
 ·obtain rfl:lv=[]:=List.length_eq_zero_iff.1 (by omega)
  have hle:mQ fin al w d=[]:=by rw [<- hlv];rfl
  subst hws
  have hl:=OU hle hwl
  repeat (first|refine ah ?_|refine af ?_|refine fG (by rfl) ?_|refine bZ (by rfl) ?_|refine au ?_|refine ak ?_|refine ae ?_|refine bP ?_)
  refine ay ?_
  exact .inl ⟨_,hl,rfl⟩
end Go.Proofs.Ytlbdmpjnmfmnfaa
