import Derived.Test.YtlbdmpjnmfmnfaaFsK
set_option linter.unusedSimpArgs false
set_option linter.unusedVariables false
namespace Go.Proofs.Ytlbdmpjnmfmnfaa
open Go.RowKit Go.HL Go.FS
def wO (u:List Int):HV:=if u=[] then .nils else .osl 1 u.length (HL.ints u)
def kN (q:List Int×List Nd):List HV:=[wO q.1,.osl 2 q.2.length (uV q.2)]
def uX (q:List Int×List Nd):List HV:=[wR q.1,.sl q.2.length (uV q.2)]
theorem Ru (u:List Int):gK (wR u)=true:=by unfold wR;split<;>rfl
theorem Q7 (u:List Int):cellV (wR u)=true:=by unfold wR;split<;>rfl
theorem Nj (u:List Int):(wR u).strip=wR u:=by
 unfold wR;split
 ·rfl
 ·simp [HV.strip,HL.ints_strip]
theorem NZ (u:List Int):(wO u).strip=wR u:=by
 unfold wO wR;split
 ·rfl
 ·simp [HV.strip,HL.ints_strip]
theorem pRR:Rec uX 2:=⟨fun _=>rfl,fun q=>by show (gK (wR q.1)&&(true&&true))=true;rw [Ru];rfl,fun q=>by show (cellV (wR q.1)&&(true&&true))=true;rw [Q7];rfl,fun q=>by simp [uX,stripL,Nj,HV.strip,wQ]⟩
theorem Eg (l:List (List Int×List Nd)):(recs kN l).length=l.length*2:=by
 simp only [recs]
 induction l with
 | nil=>rfl
 | cons q l ih=>simp only [List.flatMap_cons,List.length_append,ih,kN,List.length_cons,List.length_nil];omega
theorem DY (l:List (List Int×List Nd)):win (recs kN l) 0 (l.length*2)=recs kN l:=jc _ (Eg l).symm
theorem Hw (l:List (List Int×List Nd)):stripL (recs kN l)=recs uX l:=by
 have app:∀a b:List HV,stripL (a++b)=stripL a++stripL b:=fun a b=>by
  induction a with
  | nil=>rfl
  | cons x a ih=>simp [stripL,ih]
 simp only [recs]
 induction l with
 | nil=>rfl
 | cons q l ih=>rw [List.flatMap_cons,app,ih,List.flatMap_cons];simp [kN,uX,stripL,NZ,HV.strip,wQ]
theorem KE (l:List (List Int×List Nd)):stripL (win (recs kN l) 0 (l.length*2))=recs uX l:=by rw [DY,Hw]
theorem IZ {l:List (List Int×List Nd)} (h:∀q∈l,q.1≠[]):recs kE l=recs kN l:=by
 simp only [recs]
 induction l with
 | nil=>rfl
 | cons q l ih =>
  rw [List.flatMap_cons,List.flatMap_cons,ih fun q hq=>h q (by simp [hq])]
  have:=h q (by simp)
  simp [kE,kN,wO,this]
@[simp] theorem Yh (l:List (List Int×List Nd)):gQ (recs kE l)=true:=by
 simp only [recs,gQ]
 rw [List.all_eq_true]
 intro x hx
 obtain ⟨q,_,hq⟩:=List.mem_flatMap.1 hx
 simp only [kE,List.mem_cons,List.not_mem_nil,or_false] at hq
 rcases hq with rfl|rfl<;>rfl
theorem BH {fin:List Bool} {al:List A} {w u v:List Int} (h:v∈ext fin al w u):v≠[]:=by
 simp only [ext,List.mem_filter,List.mem_map] at h
 obtain ⟨⟨s,_,rfl⟩,_⟩:=h
 simp
theorem xQ (fin:List Bool) (al:List A) (w u:List Int):(ext fin al w u).length<=64:=by
 unfold ext
 refine Nat.le_trans (List.length_filter_le _ _) ?_
 simp
def wds (l:List (List Int)):List HV:=l.map wR
theorem QJ (l:List (List Int)):(wds l).length=l.length:=by simp [wds]
theorem BL (l:List (List Int)):win (wds l) 0 (l.length*1)=wds l:=jc _ (by simp [wds])
theorem PY (l:List (List Int)):win (wds l) 0 l.length=wds l:=jc _ (by simp [wds])
theorem Ew (l:List (List Int)) (u:List Int):wds l++[wR u]=wds (l++[u]):=by simp [wds]
theorem O9 (l:List (List Int×List Nd)):(recs uX l).length=l.length*2:=oP pRR l
attribute [go_sem] O9 Eg DY QJ BL PY
theorem Lr (w:List Int) (LF:List (List A)) (G:List Nd):stripL [.sl w.length (HL.ints w),.osl 1 LF.length (gp LF),.omap ⟨.ints 2,none⟩ (G.map pk) (lX G.length)]=runT w LF G:=by
 have ht:∀n,stripL (lX n)=lX n:=fun n=>by
  induction n with
  | zero=>rfl
  | succ n ih=>simpa [lX,List.replicate_succ,stripL,HV.strip] using ih
 simp [stripL,HV.strip,HL.ints_strip,lZ,runT,xk,ht]
theorem Az (fin:List Bool) (al:List A):stripL (iC fin al)=iC fin al:=by simp [iC,jX,stripL,HV.strip,HL.bools_strip,jf]
def apR (fin:List Bool) (al:List A) (w:List Int) (most:Int) (r:HV):Prop :=
 (∃l,Lst fin al w most l/\r=.tup [.osl 1 l.length (wds l),.int .i64 0])\/((∀l,¬ Lst fin al w most l)/\r=.tup [.osl 1 0 [],.int .i64 4])
set_option maxHeartbeats 16000000 in
theorem zk (fin:List Bool) (al:List A) (w:List Int) (G:List Nd) (most:Int) (lv:List (List Int×List Nd)) (LF:List (List A)) (hLF:bT (·.f) fin.length al=LF) (hv:okF fin al=true) (hw:w.length<=1024) (hm1:1<=most) (hm2:most<=64) (hG:∀x,x∈G <-> FS.Good fin al w x) (hGl:G.length<=4194304) (hlv:lv.map (·.1)=lF fin al w 0) (hrw:∀q∈lv,Row fin al w G.length q) :
  hx Try.prog [.c (.loop Qm),.b 0,.c Oe] (finish [6,7] (apR fin al w most))
   ⟨[(2,.int .i64 most),(3,.pref 0 [] 0),(4,.pref 1 [] 0),(8,.ptr [.sl w.length (HL.ints w),.sl LF.length (fO LF),.rmap ⟨.ints 2,none⟩ (G.map pk) (lX G.length)] 0),(9,.ref 2 [] 2 0 lv.length),(10,.ref 3 [] 1 0 0),(11,.int .i64 0)],[(0,.optr (iC fin al)),(1,.optr [.sl w.length (HL.ints w)]),(2,.osl 2 lv.length (recs kN lv)),(3,.osl 1 0 [])],4⟩:=by
 have hk:uN al:=fun a ha=>by have:=dh hv ha;omega
 have hin:∀a∈al,0<=a.f/\a.f<fin.length:=fun a ha=>by have:=dh hv ha;omega
 refine cu [2,3,4,8,9,10,11] (fun s:Nat×List (List Int×List Nd)×List (List Int)=>s.2.1.map (·.1)=lF fin al w s.1/\(∀q∈s.2.1,Row fin al w G.length q)/\s.2.2=upto fin al w s.1/\(s.2.2.length:Int)<=most/\(s.2.1.length:Int)<=64/\s.1<=G.length+1)
  (fun s=>⟨[(2,.int .i64 most),(3,.pref 0 [] 0),(4,.pref 1 [] 0),(8,.ptr [.sl w.length (HL.ints w),.sl LF.length (fO LF),.rmap ⟨.ints 2,none⟩ (G.map pk) (lX G.length)] 0),(9,.ref 2 [] 2 0 s.2.1.length),(10,.ref 3 [] 1 0 s.2.2.length),(11,.int .i64 s.1)],[(0,.optr (iC fin al)),(1,.optr [.sl w.length (HL.ints w)]),(2,.osl 2 s.2.1.length (recs kN s.2.1)),(3,.osl 1 s.2.2.length (wds s.2.2))],4⟩)
  (fun s=>G.length+2 - s.1) (0,lv,[]) ⟨hlv,hrw,rfl,by simp;omega,?_,by simp⟩ rfl ?_
 ·have:lv.length=(lF fin al w 0).length:=by rw [<- hlv,List.length_map]
  simp only [this]
  unfold lF
  split<;>simp
 rintro ⟨d,lv,ws⟩ ⟨hlv,hrw,hws,hwl,hll,hd⟩
 simp only at hlv hrw hws hwl hll hd ⊢
 by_cases hn:0<lv.length
 ·have har:=AR.start hlv hrw
  rw [<- hws] at har
  have hdeep:=fun h l=>QW (most:=most) (m:=0) hk hG hlv hn h l
  repeat (first|refine ah ?_|refine af ?_|refine fF (by rfl) ?_|refine ax ?_|refine ak ?_|refine ae ?_|refine aB ?_|refine aF ?_|refine bU ?_|refine dm ?_)
  refine bg 2 [2,3,4,8,10,11,12,53,54,55] ⟨[(2,.int .i64 most),(3,.pref 0 [] 0),(4,.pref 1 [] 0),(8,.ptr [.sl w.length (HL.ints w),.sl LF.length (fO LF),.rmap ⟨.ints 2,none⟩ (G.map pk) (lX G.length)] 0),(10,.ref 2 [] 1 0 ws.length),(11,.int .i64 d),(12,.ref 3 [] 2 0 0),(53,.sl lv.length (recs uX lv)),(54,.int .i64 lv.length),(55,.int .i64 0)],[(0,.optr (iC fin al)),(1,.optr [.sl w.length (HL.ints w)]),(2,.osl 1 ws.length (wds ws)),(3,.osl 2 0 [])],4⟩ (by rw [<- KE lv];rfl) ?_
  refine cu [2,3,4,8,10,11,12,53,54,55] (fun s:Nat×List (List Int)×List (List Int×List Nd)=>s.1<=lv.length/\AR fin al w G.length d lv s.1 s.2.1 s.2.2/\(s.2.1.length:Int)<=most/\(s.2.2.length:Int)<=most/\(0<s.1->d<=G.length))
   (fun s=>⟨[(2,.int .i64 most),(3,.pref 0 [] 0),(4,.pref 1 [] 0),(8,.ptr [.sl w.length (HL.ints w),.sl LF.length (fO LF),.rmap ⟨.ints 2,none⟩ (G.map pk) (lX G.length)] 0),(10,.ref 2 [] 1 0 s.2.1.length),(11,.int .i64 d),(12,.ref 3 [] 2 0 s.2.2.length),(53,.sl lv.length (recs uX lv)),(54,.int .i64 lv.length),(55,.int .i64 s.1)],[(0,.optr (iC fin al)),(1,.optr [.sl w.length (HL.ints w)]),(2,.osl 1 s.2.1.length (wds s.2.1)),(3,.osl 2 s.2.2.length (recs kN s.2.2))],4⟩)
   (fun s=>lv.length - s.1) (0,ws,[]) ⟨by simp,har,hwl,by simp;omega,by simp⟩ rfl ?_
  rintro ⟨k,ws,nxt⟩ ⟨hk0,har,hwl,hnl,hdk⟩
  simp only at hk0 har hwl hnl hdk ⊢
  by_cases hkl:k<lv.length
  ·have hqm:lv.getD k default∈lv:=by rw [List.getD_eq_getElem?_getD,List.getElem?_eq_getElem hkl];exact List.getElem_mem _
   have hq:=hrw _ hqm
   have hql:(lv.getD k default).1.length=d:=NJ (fin:=fin) (w:=w) hk (by rw [<- hlv];exact List.mem_map_of_mem hqm)
   have hwn:=rW pRR lv hkl
   simp only [uX] at hwn
   have hstp:=fun rows wds'=>har.step (rows:=rows) (wds':=wds') hkl
   generalize hqe:lv.getD k default=q at hwn hq hql hstp hqm
   obtain ⟨u,S⟩:=q
   simp only at hwn hql hstp
   have hSt:=hq.at_
   have hSl:=hq.len
   simp only at hSt hSl
   have hSi:∀x∈S,Na fin.length w x:=fun x hx=>wB hin ((hSt x).1 hx).good
   have hout:=Rk hSt hSi
   have hany:=LH fin al w S hSi hw (by omega)
   have hlong:=fun W hW=>Kz fin al w G S u W hW hv hw hG hGl hSt (by omega) (by omega)
   rw [hLF] at hlong
   simp only [runT] at hlong
   by_cases hu:u=[]
   ·have hlong':=hlong .nils (.inl ⟨rfl,hu⟩)
    have hwr:wR u=.nils:=by rw [wR,if_pos hu]
    rw [hwr] at hwn
    have hsn:=Ew ws u
    rw [hwr] at hsn
    repeat (first|refine aU ?_|refine gJ (by rfl) bV (by (try simp (disch:=omega) only [go_sem,reduceIte,Nat.reduceEqDiff,Nat.reduceAdd,Nat.reduceMul,hwn]);try rfl) aW (by (try simp (disch:=omega) only [go_sem,hwn]);try rfl) aV ?_|refine af ?_|refine az ?_|refine ax ?_|refine ak ?_|refine ae ?_|refine aB ?_|refine aF ?_|refine aI ?_|refine qp (by rfl) aW (by (try simp (disch:=omega) only [go_sem,reduceIte,Nat.reduceEqDiff,Nat.reduceAdd,Nat.reduceMul,hwn]);try rfl) ?_|refine lY (by rfl) aV aP jG mD (by rfl) mO (by rfl) mV (by (try simp (disch:=omega) only [go_sem,reduceIte,Nat.reduceEqDiff,Nat.reduceAdd,Nat.reduceMul,hwn]);try rfl) aW (by (try simp (disch:=omega) only [go_sem,hwn]);try rfl) aP jM ?_|refine bP eH ?_)
    refine wG bz ?_
    skip
    refine bY bz (by simp (disch:=omega) only [dI,Az,HV.thaw,dA,aG,aJ,if_true,if_false,reduceIte,Nat.reduceEqDiff,stripL,HV.strip,iD,iJ,Nat.mul_one,List.cons_append,List.nil_append,List.append_nil,I,Bl,T3,List.getD_cons_zero,List.getD_cons_succ,HL.ints_strip,HL.bools_strip,iW];try rfl) (hany) ?_
    rintro _ rfl
    cases hb:S.any (wL fin w)
    ·have hno:¬ Out fin al w u:=fun h=>by rw [hout.1 h] at hb;cases hb
     refine ⟨bG,_,_,_,_,_,fU,(by decide),bu,?_⟩
     repeat (first|refine ah ?_|refine af ?_|refine au ?_|refine ak ?_|refine ae ?_|refine aF ?_|refine fJ ?_)
     refine bY bz bW (hlong') ?_
     rintro _ ⟨rows,rfl,hrows,hrrow⟩
     refine ⟨bG,_,_,_,_,_,fU,(by decide),bu,?_⟩
     have hrl:rows.length<=64:=by
      have:=xQ fin al w u
      rw [<- hrows,List.length_map] at this
      exact this
     have hox:recs kN nxt++recs kE rows=recs kN (nxt++rows):=by
      rw [IZ fun q hq=>BH (fin:=fin) (al:=al) (w:=w) (u:=u) (by rw [<- hrows];exact List.mem_map_of_mem hq),kZ]
     have hln:(nxt++rows).length=nxt.length+rows.length:=by simp
     have har':=hstp rows ws hrows hrrow (by rw [if_neg hno])
     have hmo:=fun l (hl:Lst fin al w most l)=>har'.mst hk hl
     by_cases l2:most<((nxt.length+rows.length:Nat):Int)
     ·repeat (first|refine ah ?_|refine aK ?_|refine dH ?_|refine af ?_|refine aS ?_|refine aO ?_|refine fF (by rfl) ?_|refine ax ?_|refine ak ?_|refine ae ?_|refine bU ?_|refine dm ?_|refine iQ eH (by rfl) aV uS lq bV aP eH (by omega) iU aW (by (try simp (disch:=omega) only [go_sem,reduceIte,Nat.reduceEqDiff,Nat.reduceAdd,Nat.reduceMul,hox]);try rfl) aP (by rfl) ?_)
      refine ay ?_
      exact .inr ⟨fun l hl=>by have:=(hmo l hl).2;rw [hln] at this;omega,rfl⟩
     by_cases l3:(G.length:Int)<(d:Int)
     ·repeat (first|refine ah ?_|refine aK ?_|refine jb (by rfl) aW (by (try simp (disch:=omega) only [go_sem,hox]);try rfl) ?_|refine af ?_|refine aO ?_|refine fF (by rfl) ?_|refine ax ?_|refine ak ?_|refine ae ?_|refine bU ?_|refine dm ?_|refine dE ?_|refine iQ eH (by rfl) aV uS lq bV aP eH (by omega) iU aW (by (try simp (disch:=omega) only [go_sem,reduceIte,Nat.reduceEqDiff,Nat.reduceAdd,Nat.reduceMul,hox]);try rfl) aP (by rfl) ?_|refine nX (eV rfl) (by (try simp (disch:=omega) only [List.length_map,go_sem,reduceIte,Nat.reduceEqDiff,Nat.reduceAdd,Nat.reduceMul,hox]);try rfl) ?_|refine iE aV rfl ?_)
      refine ay ?_
      exact .inr ⟨fun l=>hdeep (by omega) l,rfl⟩
     repeat (first|refine ah ?_|refine aK ?_|refine jb (by rfl) aW (by (try simp (disch:=omega) only [go_sem,hox]);try rfl) ?_|refine af ?_|refine aO ?_|refine jL (by rfl) (by rfl) (by (try simp (disch:=omega) only [go_sem,Int.reduceAdd,Int.reduceSub,Int.reduceMul,hox]);try rfl) ?_|refine fF (by rfl) ?_|refine au ?_|refine ak ?_|refine ae ?_|refine fK ?_|refine aF ?_|refine dm ?_|refine dE ?_|refine iQ eH (by rfl) aV uS lq bV aP eH (by omega) iU aW (by (try simp (disch:=omega) only [go_sem,reduceIte,Nat.reduceEqDiff,Nat.reduceAdd,Nat.reduceMul,hox]);try rfl) aP (by rfl) ?_|refine nX (eV rfl) (by (try simp (disch:=omega) only [List.length_map,go_sem,reduceIte,Nat.reduceEqDiff,Nat.reduceAdd,Nat.reduceMul,hox]);try rfl) ?_|refine iE aV rfl ?_)
     exact dB [2,3,4,8,10,11,12,53,54,55] (k+1,ws,nxt++rows) ⟨hkl,har',by exact hwl,by simp only [hln];omega,fun _=>by omega⟩ jh (by simp only [hln];rfl)
    ·have hyes:=hout.2 hb
     refine ⟨bG,_,_,_,_,_,fU,(by decide),bu,?_⟩
     repeat (first|refine ah ?_|refine gJ (by rfl) bV (by (try simp (disch:=omega) only [go_sem,reduceIte,Nat.reduceEqDiff,Nat.reduceAdd,Nat.reduceMul,hsn]);try rfl) aW (by (try simp (disch:=omega) only [go_sem,hsn]);try rfl) aV ?_|refine af ?_|refine ax ?_|refine ak ?_|refine ae ?_|refine aI ?_|refine jF (by rfl) bV aP aW (by decide) (by (try simp (disch:=omega) only [go_sem,reduceIte,Nat.reduceEqDiff,Nat.reduceAdd,Nat.reduceMul,hsn]);try rfl) ja ?_|refine bQ ?_|refine iQ eH (by rfl) aV uS lq bV aP eH (by omega) iU aW (by (try simp (disch:=omega) only [go_sem,reduceIte,Nat.reduceEqDiff,Nat.reduceAdd,Nat.reduceMul,hsn]);try rfl) aP (by rfl) ?_)
     refine bY bz bW (hlong') ?_
     rintro _ ⟨rows,rfl,hrows,hrrow⟩
     refine ⟨bG,_,_,_,_,_,fU,(by decide),bu,?_⟩
     have hrl:rows.length<=64:=by
      have:=xQ fin al w u
      rw [<- hrows,List.length_map] at this
      exact this
     have hox:recs kN nxt++recs kE rows=recs kN (nxt++rows):=by
      rw [IZ fun q hq=>BH (fin:=fin) (al:=al) (w:=w) (u:=u) (by rw [<- hrows];exact List.mem_map_of_mem hq),kZ]
     have hln:(nxt++rows).length=nxt.length+rows.length:=by simp
     have hwn1:(ws++[u]).length=ws.length+1:=by simp
     have har':=hstp rows (ws++[u]) hrows hrrow (by rw [if_pos hyes])
     have hmo:=fun l (hl:Lst fin al w most l)=>har'.mst hk hl
     by_cases l1:most<((ws.length+1:Nat):Int)
     ·repeat (first|refine ah ?_|refine dH ?_|refine af ?_|refine aS ?_|refine fF (by rfl) ?_|refine ax ?_|refine ak ?_|refine ae ?_|refine bU ?_|refine dm ?_|refine iQ eH (by rfl) aV uS lq bV aP eH (by omega) iU aW (by (try simp (disch:=omega) only [go_sem,reduceIte,Nat.reduceEqDiff,Nat.reduceAdd,Nat.reduceMul,hox]);try rfl) aP (by rfl) ?_)
      refine ay ?_
      exact .inr ⟨fun l hl=>by have:=(hmo l hl).1;rw [hwn1] at this;omega,rfl⟩
     by_cases l2:most<((nxt.length+rows.length:Nat):Int)
     ·repeat (first|refine ah ?_|refine aK ?_|refine dH ?_|refine af ?_|refine aS ?_|refine aO ?_|refine fF (by rfl) ?_|refine ax ?_|refine ak ?_|refine ae ?_|refine bU ?_|refine dm ?_|refine iQ eH (by rfl) aV uS lq bV aP eH (by omega) iU aW (by (try simp (disch:=omega) only [go_sem,reduceIte,Nat.reduceEqDiff,Nat.reduceAdd,Nat.reduceMul,hox]);try rfl) aP (by rfl) ?_)
      refine ay ?_
      exact .inr ⟨fun l hl=>by have:=(hmo l hl).2;rw [hln] at this;omega,rfl⟩
     by_cases l3:(G.length:Int)<(d:Int)
     ·repeat (first|refine ah ?_|refine aK ?_|refine jb (by rfl) aW (by (try simp (disch:=omega) only [go_sem,hox]);try rfl) ?_|refine af ?_|refine aO ?_|refine fF (by rfl) ?_|refine ax ?_|refine ak ?_|refine ae ?_|refine bU ?_|refine dm ?_|refine dE ?_|refine iQ eH (by rfl) aV uS lq bV aP eH (by omega) iU aW (by (try simp (disch:=omega) only [go_sem,reduceIte,Nat.reduceEqDiff,Nat.reduceAdd,Nat.reduceMul,hox]);try rfl) aP (by rfl) ?_|refine nX (eV rfl) (by (try simp (disch:=omega) only [List.length_map,go_sem,reduceIte,Nat.reduceEqDiff,Nat.reduceAdd,Nat.reduceMul,hox]);try rfl) ?_|refine iE aV rfl ?_)
      refine ay ?_
      exact .inr ⟨fun l=>hdeep (by omega) l,rfl⟩
     repeat (first|refine ah ?_|refine aK ?_|refine jb (by rfl) aW (by (try simp (disch:=omega) only [go_sem,hox]);try rfl) ?_|refine af ?_|refine aO ?_|refine jL (by rfl) (by rfl) (by (try simp (disch:=omega) only [go_sem,Int.reduceAdd,Int.reduceSub,Int.reduceMul,hox]);try rfl) ?_|refine fF (by rfl) ?_|refine au ?_|refine ak ?_|refine ae ?_|refine fK ?_|refine aF ?_|refine dm ?_|refine dE ?_|refine iQ eH (by rfl) aV uS lq bV aP eH (by omega) iU aW (by (try simp (disch:=omega) only [go_sem,reduceIte,Nat.reduceEqDiff,Nat.reduceAdd,Nat.reduceMul,hox]);try rfl) aP (by rfl) ?_|refine nX (eV rfl) (by (try simp (disch:=omega) only [List.length_map,go_sem,reduceIte,Nat.reduceEqDiff,Nat.reduceAdd,Nat.reduceMul,hox]);try rfl) ?_|refine iE aV rfl ?_)
     exact dB [2,3,4,8,10,11,12,53,54,55] (k+1,ws++[u],nxt++rows) ⟨hkl,har',by simp only [hwn1];omega,by simp only [hln];omega,fun _=>by omega⟩ jh (by simp only [hln,hwn1];rfl)
   ·have hlong':=hlong (.sl u.length (HL.ints u)) (.inr ⟨rfl,List.length_pos_iff.2 hu⟩)
    have hwr:wR u=.sl u.length (HL.ints u):=by rw [wR,if_neg hu]
    rw [hwr] at hwn
    have hsn:=Ew ws u
    rw [hwr] at hsn
    repeat (first|refine aU ?_|refine gJ (by rfl) bV (by (try simp (disch:=omega) only [go_sem,reduceIte,Nat.reduceEqDiff,Nat.reduceAdd,Nat.reduceMul,hwn]);try rfl) aW (by (try simp (disch:=omega) only [go_sem,hwn]);try rfl) aV ?_|refine af ?_|refine az ?_|refine ax ?_|refine ak ?_|refine ae ?_|refine aB ?_|refine aF ?_|refine aI ?_|refine qp (by rfl) aW (by (try simp (disch:=omega) only [go_sem,reduceIte,Nat.reduceEqDiff,Nat.reduceAdd,Nat.reduceMul,hwn]);try rfl) ?_|refine lY (by rfl) aV aP jG mD (by rfl) mO (by rfl) mV (by (try simp (disch:=omega) only [go_sem,reduceIte,Nat.reduceEqDiff,Nat.reduceAdd,Nat.reduceMul,hwn]);try rfl) aW (by (try simp (disch:=omega) only [go_sem,hwn]);try rfl) aP jM ?_|refine bP eH ?_)
    refine wG bz ?_
    skip
    refine bY bz (by simp (disch:=omega) only [dI,Az,HV.thaw,dA,aG,aJ,if_true,if_false,reduceIte,Nat.reduceEqDiff,stripL,HV.strip,iD,iJ,Nat.mul_one,List.cons_append,List.nil_append,List.append_nil,I,Bl,T3,List.getD_cons_zero,List.getD_cons_succ,HL.ints_strip,HL.bools_strip,iW];try rfl) (hany) ?_
    rintro _ rfl
    cases hb:S.any (wL fin w)
    ·have hno:¬ Out fin al w u:=fun h=>by rw [hout.1 h] at hb;cases hb
     refine ⟨bG,_,_,_,_,_,fU,(by decide),bu,?_⟩
     repeat (first|refine ah ?_|refine af ?_|refine au ?_|refine ak ?_|refine ae ?_|refine aF ?_|refine fJ ?_)
     refine bY bz bW (hlong') ?_
     rintro _ ⟨rows,rfl,hrows,hrrow⟩
     refine ⟨bG,_,_,_,_,_,fU,(by decide),bu,?_⟩
     have hrl:rows.length<=64:=by
      have:=xQ fin al w u
      rw [<- hrows,List.length_map] at this
      exact this
     have hox:recs kN nxt++recs kE rows=recs kN (nxt++rows):=by
      rw [IZ fun q hq=>BH (fin:=fin) (al:=al) (w:=w) (u:=u) (by rw [<- hrows];exact List.mem_map_of_mem hq),kZ]
     have hln:(nxt++rows).length=nxt.length+rows.length:=by simp
     have har':=hstp rows ws hrows hrrow (by rw [if_neg hno])
     have hmo:=fun l (hl:Lst fin al w most l)=>har'.mst hk hl
     by_cases l2:most<((nxt.length+rows.length:Nat):Int)
     ·repeat (first|refine ah ?_|refine aK ?_|refine dH ?_|refine af ?_|refine aS ?_|refine aO ?_|refine fF (by rfl) ?_|refine ax ?_|refine ak ?_|refine ae ?_|refine bU ?_|refine dm ?_|refine iQ eH (by rfl) aV uS lq bV aP eH (by omega) iU aW (by (try simp (disch:=omega) only [go_sem,reduceIte,Nat.reduceEqDiff,Nat.reduceAdd,Nat.reduceMul,hox]);try rfl) aP (by rfl) ?_)
      refine ay ?_
      exact .inr ⟨fun l hl=>by have:=(hmo l hl).2;rw [hln] at this;omega,rfl⟩
     by_cases l3:(G.length:Int)<(d:Int)
     ·repeat (first|refine ah ?_|refine aK ?_|refine jb (by rfl) aW (by (try simp (disch:=omega) only [go_sem,hox]);try rfl) ?_|refine af ?_|refine aO ?_|refine fF (by rfl) ?_|refine ax ?_|refine ak ?_|refine ae ?_|refine bU ?_|refine dm ?_|refine dE ?_|refine iQ eH (by rfl) aV uS lq bV aP eH (by omega) iU aW (by (try simp (disch:=omega) only [go_sem,reduceIte,Nat.reduceEqDiff,Nat.reduceAdd,Nat.reduceMul,hox]);try rfl) aP (by rfl) ?_|refine nX (eV rfl) (by (try simp (disch:=omega) only [List.length_map,go_sem,reduceIte,Nat.reduceEqDiff,Nat.reduceAdd,Nat.reduceMul,hox]);try rfl) ?_|refine iE aV rfl ?_)
      refine ay ?_
      exact .inr ⟨fun l=>hdeep (by omega) l,rfl⟩
     repeat (first|refine ah ?_|refine aK ?_|refine jb (by rfl) aW (by (try simp (disch:=omega) only [go_sem,hox]);try rfl) ?_|refine af ?_|refine aO ?_|refine jL (by rfl) (by rfl) (by (try simp (disch:=omega) only [go_sem,Int.reduceAdd,Int.reduceSub,Int.reduceMul,hox]);try rfl) ?_|refine fF (by rfl) ?_|refine au ?_|refine ak ?_|refine ae ?_|refine fK ?_|refine aF ?_|refine dm ?_|refine dE ?_|refine iQ eH (by rfl) aV uS lq bV aP eH (by omega) iU aW (by (try simp (disch:=omega) only [go_sem,reduceIte,Nat.reduceEqDiff,Nat.reduceAdd,Nat.reduceMul,hox]);try rfl) aP (by rfl) ?_|refine nX (eV rfl) (by (try simp (disch:=omega) only [List.length_map,go_sem,reduceIte,Nat.reduceEqDiff,Nat.reduceAdd,Nat.reduceMul,hox]);try rfl) ?_|refine iE aV rfl ?_)
     exact dB [2,3,4,8,10,11,12,53,54,55] (k+1,ws,nxt++rows) ⟨hkl,har',by exact hwl,by simp only [hln];omega,fun _=>by omega⟩ jh (by simp only [hln];rfl)
    ·have hyes:=hout.2 hb
     refine ⟨bG,_,_,_,_,_,fU,(by decide),bu,?_⟩
     repeat (first|refine ah ?_|refine gJ (by rfl) bV (by (try simp (disch:=omega) only [go_sem,reduceIte,Nat.reduceEqDiff,Nat.reduceAdd,Nat.reduceMul,hsn]);try rfl) aW (by (try simp (disch:=omega) only [go_sem,hsn]);try rfl) aV ?_|refine af ?_|refine ax ?_|refine ak ?_|refine ae ?_|refine aI ?_|refine jF (by rfl) bV aP aW (by decide) (by (try simp (disch:=omega) only [go_sem,reduceIte,Nat.reduceEqDiff,Nat.reduceAdd,Nat.reduceMul,hsn]);try rfl) ja ?_|refine bQ ?_|refine iQ eH (by rfl) aV uS lq bV aP eH (by omega) iU aW (by (try simp (disch:=omega) only [go_sem,reduceIte,Nat.reduceEqDiff,Nat.reduceAdd,Nat.reduceMul,hsn]);try rfl) aP (by rfl) ?_)
     refine bY bz bW (hlong') ?_
     rintro _ ⟨rows,rfl,hrows,hrrow⟩
     refine ⟨bG,_,_,_,_,_,fU,(by decide),bu,?_⟩
     have hrl:rows.length<=64:=by
      have:=xQ fin al w u
      rw [<- hrows,List.length_map] at this
      exact this
     have hox:recs kN nxt++recs kE rows=recs kN (nxt++rows):=by
      rw [IZ fun q hq=>BH (fin:=fin) (al:=al) (w:=w) (u:=u) (by rw [<- hrows];exact List.mem_map_of_mem hq),kZ]
     have hln:(nxt++rows).length=nxt.length+rows.length:=by simp
     have hwn1:(ws++[u]).length=ws.length+1:=by simp
     have har':=hstp rows (ws++[u]) hrows hrrow (by rw [if_pos hyes])
     have hmo:=fun l (hl:Lst fin al w most l)=>har'.mst hk hl
     by_cases l1:most<((ws.length+1:Nat):Int)
     ·repeat (first|refine ah ?_|refine dH ?_|refine af ?_|refine aS ?_|refine fF (by rfl) ?_|refine ax ?_|refine ak ?_|refine ae ?_|refine bU ?_|refine dm ?_|refine iQ eH (by rfl) aV uS lq bV aP eH (by omega) iU aW (by (try simp (disch:=omega) only [go_sem,reduceIte,Nat.reduceEqDiff,Nat.reduceAdd,Nat.reduceMul,hox]);try rfl) aP (by rfl) ?_)
      refine ay ?_
      exact .inr ⟨fun l hl=>by have:=(hmo l hl).1;rw [hwn1] at this;omega,rfl⟩
     by_cases l2:most<((nxt.length+rows.length:Nat):Int)
     ·repeat (first|refine ah ?_|refine aK ?_|refine dH ?_|refine af ?_|refine aS ?_|refine aO ?_|refine fF (by rfl) ?_|refine ax ?_|refine ak ?_|refine ae ?_|refine bU ?_|refine dm ?_|refine iQ eH (by rfl) aV uS lq bV aP eH (by omega) iU aW (by (try simp (disch:=omega) only [go_sem,reduceIte,Nat.reduceEqDiff,Nat.reduceAdd,Nat.reduceMul,hox]);try rfl) aP (by rfl) ?_)
      refine ay ?_
      exact .inr ⟨fun l hl=>by have:=(hmo l hl).2;rw [hln] at this;omega,rfl⟩
     by_cases l3:(G.length:Int)<(d:Int)
     ·repeat (first|refine ah ?_|refine aK ?_|refine jb (by rfl) aW (by (try simp (disch:=omega) only [go_sem,hox]);try rfl) ?_|refine af ?_|refine aO ?_|refine fF (by rfl) ?_|refine ax ?_|refine ak ?_|refine ae ?_|refine bU ?_|refine dm ?_|refine dE ?_|refine iQ eH (by rfl) aV uS lq bV aP eH (by omega) iU aW (by (try simp (disch:=omega) only [go_sem,reduceIte,Nat.reduceEqDiff,Nat.reduceAdd,Nat.reduceMul,hox]);try rfl) aP (by rfl) ?_|refine nX (eV rfl) (by (try simp (disch:=omega) only [List.length_map,go_sem,reduceIte,Nat.reduceEqDiff,Nat.reduceAdd,Nat.reduceMul,hox]);try rfl) ?_|refine iE aV rfl ?_)
      refine ay ?_
      exact .inr ⟨fun l=>hdeep (by omega) l,rfl⟩
     repeat (first|refine ah ?_|refine aK ?_|refine jb (by rfl) aW (by (try simp (disch:=omega) only [go_sem,hox]);try rfl) ?_|refine af ?_|refine aO ?_|refine jL (by rfl) (by rfl) (by (try simp (disch:=omega) only [go_sem,Int.reduceAdd,Int.reduceSub,Int.reduceMul,hox]);try rfl) ?_|refine fF (by rfl) ?_|refine au ?_|refine ak ?_|refine ae ?_|refine fK ?_|refine aF ?_|refine dm ?_|refine dE ?_|refine iQ eH (by rfl) aV uS lq bV aP eH (by omega) iU aW (by (try simp (disch:=omega) only [go_sem,reduceIte,Nat.reduceEqDiff,Nat.reduceAdd,Nat.reduceMul,hox]);try rfl) aP (by rfl) ?_|refine nX (eV rfl) (by (try simp (disch:=omega) only [List.length_map,go_sem,reduceIte,Nat.reduceEqDiff,Nat.reduceAdd,Nat.reduceMul,hox]);try rfl) ?_|refine iE aV rfl ?_)
     exact dB [2,3,4,8,10,11,12,53,54,55] (k+1,ws++[u],nxt++rows) ⟨hkl,har',by simp only [hwn1];omega,by simp only [hln];omega,fun _=>by omega⟩ jh (by simp only [hln,hwn1];rfl)
  ·obtain rfl:k=lv.length:=by omega
   have hdn:=har.done (Nat.le_refl _)
   repeat (first|refine ah ?_|refine af ?_|refine az ?_|refine bH ?_|refine bK (by rfl) ?_|refine au ?_|refine ak ?_|refine ae ?_|refine fK ?_)
   exact dB [2,3,4,8,9,10,11] (d+1,nxt,ws) ⟨hdn.2,har.nrow,hdn.1,hwl,by simp only;omega,by have:=hdk hn;simp only;omega⟩ (by have:=hdk hn;simp only;omega) rfl
 ·obtain rfl:lv=[]:=List.length_eq_zero_iff.1 (by omega)
  have hle:lF fin al w d=[]:=by rw [<- hlv];rfl
  subst hws
  have hl:=Tm hle hwl
  repeat (first|refine ah ?_|refine af ?_|refine fF (by rfl) ?_|refine bK (by rfl) ?_|refine au ?_|refine ak ?_|refine ae ?_|refine dm ?_)
  refine ay ?_
  exact .inl ⟨_,hl,rfl⟩
end Go.Proofs.Ytlbdmpjnmfmnfaa
