import Derived.Test.YtlbdmpjnmfmnfaaFsV
import Derived.Test.YtlbdmpjnmfmnfaaFsL
import Derived.Test.YtlbdmpjnmfmnfaaFsB
set_option linter.unusedSimpArgs false
set_option linter.unusedVariables false
set_option maxHeartbeats 16000000
section
namespace Go.Proofs.Ytlbdmpjnmfmnfaa
open Go.RowKit Go.HL Go.FS
def xn (w:List Int) (lv:List (List Int×List Nd)):List HV:=lv.map fun q=>.sl q.2.length (vZ w q.2)
def LX (w:List Int) (lv:List (List Int×List Nd)):List HV:=lv.map fun q=>.osl 1 q.2.length (vZ w q.2)
def L8 (lv:List (List Int×List Nd)):List HV:=lv.map fun q=>wO q.1
theorem UT (w:List Int) (lv:List (List Int×List Nd)):(xn w lv).length=lv.length:=by simp [xn]
theorem KH (w:List Int) (lv:List (List Int×List Nd)):(LX w lv).length=lv.length:=by simp [LX]
theorem LV (lv:List (List Int×List Nd)):(L8 lv).length=lv.length:=by simp [L8]
theorem aau (w:List Int) (lv:List (List Int×List Nd)):win (LX w lv) 0 lv.length=LX w lv:=eG _ (KH w lv).symm
theorem ZN (lv:List (List Int×List Nd)):win (L8 lv) 0 lv.length=L8 lv:=eG _ (LV lv).symm
theorem Ou (w:List Int) (lv:List (List Int×List Nd)):win (LX w lv) 0 (lv.length*1)=LX w lv:=eG _ (by rw [KH];omega)
theorem Nz (lv:List (List Int×List Nd)):win (L8 lv) 0 (lv.length*1)=L8 lv:=eG _ (by rw [LV];omega)
theorem Yy (w:List Int) (lv:List (List Int×List Nd)):stripL (win (LX w lv) 0 (lv.length*1))=xn w lv:=by
 rw [Ou]
 unfold LX xn
 induction lv with
 | nil=>rfl
 | cons q lv ih=>simp only [dV,stripL,HV.strip,Ei];rw [ih]
theorem XN (lv:List (List Int×List Nd)):stripL (win (L8 lv) 0 (lv.length*1))=wds (lv.map (·.1)):=by
 rw [Nz]
 unfold L8 wds
 induction lv with
 | nil=>rfl
 | cons q lv ih=>simp only [dV,stripL,NF];rw [ih]
theorem NP (w:List Int) (lv:List (List Int×List Nd)) (u:List Int) (L:List Nd):LX w lv++[.osl 1 L.length (vZ w L)]=LX w (lv++[(u,L)]):=by simp [LX]
theorem OC (lv:List (List Int×List Nd)) (u:List Int) (s:Int) (L:List Nd):L8 lv++[.osl 1 (u.length+1) (HL.ints (u++[s]))]=L8 (lv++[(u++[s],L)]):=by simp [L8,wO]
attribute [go_sem] List.length_map UT KH LV aau ZN Ou Nz
theorem SB {lv:List (List Int×List Nd)} {k:Nat} (h:k<lv.length):(wds (lv.map (·.1))).getD k .dead=wR (lv.getD k default).1:=by simp [wds,h]
theorem Jp {w:List Int} {lv:List (List Int×List Nd)} {k:Nat} (h:k<lv.length):(xn w lv).getD k .dead=.sl (lv.getD k default).2.length (vZ w (lv.getD k default).2):=by simp [xn,h]
theorem XE (fin:List Bool) (al:List A) (w:List Int) (G:List Nd) (gb:List Bool) (most:Int) (lv nxt:List (List Int×List Nd)) (ws:List (List Int)) (k d:Nat) (u:List Int) (S:List Nd) (LF:List (List A)) (N:Nat) (hkl:k<lv.length) (hqe:lv.getD k default=(u,S)) (hLF:aG (·.f) fin.length al=LF) (hgl:gb.length=N) (hv:okF fin al=true) (hw:w.length<=1024) (hG:∀x,x∈G <-> FS.Good fin al w x) (hGl:G.length<=4194304) (hb:GB fin.length w G gb) (hS:∀x,x∈S <-> FS.At fin al w u x) (hSl:S.length<=4198400) (hul:u.length<=8388608) (hnl:nxt.length<=8192)
  (hGn:G.Nodup) (C:HCode) (kk:List HI) [Plain kk] (rs:List Nat) (KK:HV->Prop) (hK:∀rows:List (List Int×List Nd),rows.map (·.1)=ext fin al w u->(∀q∈rows,Row fin al w G.length q)->rows.length<=64->hx Try.prog (.c C::kk) (finish rs KK) ⟨[(1,.sl w.length (HL.ints w)),(2,.int .i64 most),(3,.ptr [.sl fin.length (HL.bools fin),.sl al.length (recs aC al)] 0),(8,.ptr [.sl w.length (HL.ints w),.sl LF.length (bF LF),.sl N (HL.bools gb)] 0),(9,.sl lv.length (wds (lv.map (·.1)))),(10,.sl lv.length (xn w lv)),(11,.ref 0 [] 1 0 ws.length),(12,.int .i64 d),(13,.ref 1 [] 1 0 (nxt++rows).length),(14,.ref 2 [] 1 0 (nxt++rows).length),(15,.int .i64 k)],[(0,.osl 1 ws.length (wds ws)),(1,.osl 1 (nxt++rows).length (L8 (nxt++rows))),(2,.osl 1 (nxt++rows).length (LX w (nxt++rows)))],3⟩) :
  hx Try.prog (.c (.loop Y2)::.b 6::.b 3::.c C::kk) (finish rs KK) ⟨[(1,.sl w.length (HL.ints w)),(2,.int .i64 most),(3,.ptr [.sl fin.length (HL.bools fin),.sl al.length (recs aC al)] 0),(8,.ptr [.sl w.length (HL.ints w),.sl LF.length (bF LF),.sl N (HL.bools gb)] 0),(9,.sl lv.length (wds (lv.map (·.1)))),(10,.sl lv.length (xn w lv)),(11,.ref 0 [] 1 0 ws.length),(12,.int .i64 d),(13,.ref 1 [] 1 0 nxt.length),(14,.ref 2 [] 1 0 nxt.length),(15,.int .i64 k),(19,.int .i64 0)],[(0,.osl 1 ws.length (wds ws)),(1,.osl 1 nxt.length (L8 nxt)),(2,.osl 1 nxt.length (LX w nxt))],3⟩:=by
 obtain ⟨h1,h2,h3⟩:=bY hv
 have hby:=fun s hs=>WP fin al w G S gb s hs hv hw hG hb (fun x hx=>((hS x).1 hx).good) hSl
 rw [hLF] at hby
 simp only [Ip,hgl] at hby
 have hwn:=SB hkl
 have hcn:=Jp (w:=w) hkl
 rw [hqe] at hwn hcn
 simp only at hwn hcn
 have hSe:(fun x=>x∈S)=FS.At fin al w u:=funext fun x=>propext (hS x)
 refine aI [1,2,3,8,9,10,11,12,13,14,15,19] (fun s:Nat×List (List Int×List Nd)=>s.1<=64/\s.2.map (·.1)=Ko fin al w u s.1/\s.2.length<=s.1/\∀q∈s.2,Row fin al w G.length q)
  (fun s=>⟨[(1,.sl w.length (HL.ints w)),(2,.int .i64 most),(3,.ptr [.sl fin.length (HL.bools fin),.sl al.length (recs aC al)] 0),(8,.ptr [.sl w.length (HL.ints w),.sl LF.length (bF LF),.sl N (HL.bools gb)] 0),(9,.sl lv.length (wds (lv.map (·.1)))),(10,.sl lv.length (xn w lv)),(11,.ref 0 [] 1 0 ws.length),(12,.int .i64 d),(13,.ref 1 [] 1 0 (nxt++s.2).length),(14,.ref 2 [] 1 0 (nxt++s.2).length),(15,.int .i64 k),(19,.int .i64 s.1)],[(0,.osl 1 ws.length (wds ws)),(1,.osl 1 (nxt++s.2).length (L8 (nxt++s.2))),(2,.osl 1 (nxt++s.2).length (LX w (nxt++s.2)))],3⟩)
  (fun s=>64 - s.1) (0,[]) ⟨by simp,by simp [Ko],by simp,by simp⟩ (by simp only [List.append_nil];rfl) ?_
 rintro ⟨s,rows⟩ ⟨hs0,hrows,hrl,hrow⟩
 simp only at hs0 hrows hrl hrow ⊢
 have hnr:(nxt++rows).length=nxt.length+rows.length:=by simp
 by_cases hsl:s<64
 ·have hstep:=JI (fin:=fin) (al:=al) (w:=w) u s
  have hb1:=hby (s:Int) (by omega)
  rw [hSe] at hb1
  have hbeg:Beg fin al w (u++[(s:Int)]) <-> ∃y,Cl fin al w (By fin al w (FS.At fin al w u) s) y:=by
   unfold Beg
   exact exists_congr fun y=>ul (by omega)
  have hex:∃r:HV,(∃L,r=.osl 1 L.length (vZ w L)/\(∀x,x∈L <-> Cl fin al w (By fin al w (FS.At fin al w u) s) x)/\L.Nodup)/\r.deep=[]:=by
   classical
   refine ⟨_,⟨G.filter (fun x=>decide (Cl fin al w (By fin al w (FS.At fin al w u) s) x)),rfl,fun x=>?_,hGn.filter _⟩,jL _⟩
   simp only [zl042,decide_eq_true_eq]
   exact ⟨fun h=>h.2,fun h=>⟨(hG x).2 (ww (fun x ⟨_,_,_,hg⟩=>hg) h),h⟩⟩
  refine zF ⟨?_⟩
  refine bG ah ah (fun _ _ r=>∃L,r=.osl 1 L.length (vZ w L)/\(∀x,x∈L <-> Cl fin al w (By fin al w (FS.At fin al w u) s) x)/\L.Nodup) ?_
  refine eH @hcn ⟨?_⟩
  refine bI ay aK hb1 hex ?_
  rintro _ ⟨L,rfl,hL,hLn⟩ -
  refine ⟨(by simp only [aJ,G7,HV.refFree,dm,HV.noRd,HL.ints_noRd,HL.bools_noRd,dR,mZ,lX,l9,kE,Bool.and_true,jf,Bool.and_self,mQ,beq_self_eq_true,List.cons_append,List.nil_append]),_,_,_,_,_,zT,(by decide),lH,?_⟩
  have hLl:L.length<=G.length:=dW hLn fun x hx=>(hG x).2 (ww (fun x ⟨_,_,_,hg⟩=>hg) ((hL x).1 hx))
  by_cases hL0:0<L.length
  ·rw [if_pos (hbeg.2 (by obtain ⟨y,hy⟩:=PV L (zl107.1 hL0);exact ⟨y,(hL y).1 hy⟩))] at hstep
   have hl1:(rows++[(u++[(s:Int)],L)]).length=rows.length+1:=by simp
   have hrow':∀q∈rows++[(u++[(s:Int)],L)],Row fin al w G.length q:=fun q hq=>by
    rcases zl003.1 hq with hq|hq
    ·exact hrow q hq
    ·simp only [zl009] at hq
     subst hq
     exact ⟨fun x=>(hL x).trans (ul (by omega)).symm,by simp only;omega⟩
   by_cases hu:u=[]
   ·subst hu
    rw [show wR []=.nils from rfl] at hwn
    refine eH @hwn ⟨?_⟩
    exact aP [1,2,3,8,9,10,11,12,13,14,15,19] (s+1,rows++[(([]:List Int)++[(s:Int)],L)]) ⟨hsl,by simp only [qj,hrows,hstep];rfl,by simp only [hl1];omega,hrow'⟩ dL (by simp only [<- kQ,<- NP,<- OC,bD,jQ];rfl)
   ·rw [show wR u=.sl u.length (HL.ints u) by rw [wR,if_neg hu]] at hwn
    have hu0:0<u.length:=zl107.2 hu
    refine eH @hwn ⟨?_⟩
    exact aP [1,2,3,8,9,10,11,12,13,14,15,19] (s+1,rows++[(u++[(s:Int)],L)]) ⟨hsl,by simp only [qj,hrows,hstep];rfl,by simp only [hl1];omega,hrow'⟩ dL (by simp only [<- kQ,<- NP,<- OC,bD,jQ];rfl)
  ·rw [if_neg (fun h=>by obtain ⟨y,hy⟩:=hbeg.1 h;exact hL0 (List.length_pos_of_mem ((hL y).2 hy)))] at hstep
   refine zF ⟨?_⟩
   exact aP [1,2,3,8,9,10,11,12,13,14,15,19] (s+1,rows) ⟨hsl,by rw [hrows,hstep],by simp only;omega,hrow⟩ dL rfl
 ·obtain rfl:s=64:=by omega
  refine zF ⟨?_⟩
  refine jX (Weak.norm2 [1,2,3,8,9,10,11,12,13,14,15] _) ?_
  exact hK rows hrows hrow hrl
theorem MO (fin:List Bool) (al:List A) (w:List Int) (G:List Nd) (gb:List Bool) (most:Int) (lv:List (List Int×List Nd)) (LF:List (List A)) (N:Nat) (hLF:aG (·.f) fin.length al=LF) (hN:fin.length*(w.length+1)=N) (hv:okF fin al=true) (hw:w.length<=1024) (hm1:1<=most) (hm2:most<=64) (hG:∀x,x∈G <-> FS.Good fin al w x) (hGn:G.Nodup) (hb:GB fin.length w G gb) (hlv:lv.map (·.1)=rf fin al w 0) (hrw:∀q∈lv,Row fin al w G.length q) :
  hx Try.prog [.c (.loop V4),.b 0,.c WY] (finish [6,7] (apR fin al w most))
   ⟨[(1,.sl w.length (HL.ints w)),(2,.int .i64 most),(3,.ptr [.sl fin.length (HL.bools fin),.sl al.length (recs aC al)] 0),(8,.ptr [.sl w.length (HL.ints w),.sl LF.length (bF LF),.sl N (HL.bools gb)] 0),(9,.ref 0 [] 1 0 lv.length),(10,.ref 1 [] 1 0 lv.length),(11,.ref 2 [] 1 0 0),(12,.int .i64 0)],[(0,.osl 1 lv.length (L8 lv)),(1,.osl 1 lv.length (LX w lv)),(2,.osl 1 0 [])],3⟩:=by
 obtain ⟨h1,h2,h3⟩:=bY hv
 have hk:Eb al:=fun a ha=>by have:=cu hv ha;omega
 have hin:∀a∈al,0<=a.f/\a.f<fin.length:=fun a ha=>by have:=cu hv ha;omega
 have hNb:=qm (n:=fin.length) (w:=w) h2 hw
 have hgl:=hb.len
 have hGl:=kw hGn fun x hx=>kX hin ((hG x).1 hx)
 rw [hN] at hNb hgl hGl
 have hby:=fun S s=>WP fin al w G S gb s
 rw [hLF] at hby
 simp only [Ip,hgl] at hby
 refine aI [1,2,3,8,9,10,11,12] (fun s:Nat×List (List Int×List Nd)×List (List Int)=>s.2.1.map (·.1)=rf fin al w s.1/\(∀q∈s.2.1,Row fin al w G.length q)/\s.2.2=upto fin al w s.1/\(s.2.2.length:Int)<=most/\(s.2.1.length:Int)<=64/\s.1<=N+1)
  (fun s=>⟨[(1,.sl w.length (HL.ints w)),(2,.int .i64 most),(3,.ptr [.sl fin.length (HL.bools fin),.sl al.length (recs aC al)] 0),(8,.ptr [.sl w.length (HL.ints w),.sl LF.length (bF LF),.sl N (HL.bools gb)] 0),(9,.ref 0 [] 1 0 s.2.1.length),(10,.ref 1 [] 1 0 s.2.1.length),(11,.ref 2 [] 1 0 s.2.2.length),(12,.int .i64 s.1)],[(0,.osl 1 s.2.1.length (L8 s.2.1)),(1,.osl 1 s.2.1.length (LX w s.2.1)),(2,.osl 1 s.2.2.length (wds s.2.2))],3⟩)
  (fun s=>N+2 - s.1) (0,lv,[]) ⟨hlv,hrw,rfl,by simp;omega,?_,by simp⟩ rfl ?_
 ·have:lv.length=(rf fin al w 0).length:=by rw [<- hlv,List.length_map]
  simp only [this]
  unfold rf
  split<;>simp
 clear hlv hrw lv
 rintro ⟨d,lv,ws⟩ ⟨hlv,hrw,hws,hwl,hll,hd⟩
 simp only at hlv hrw hws hwl hll hd ⊢
 by_cases hn:0<lv.length
 ·have har:=AR.start hlv hrw
  rw [<- hws] at har
  have hlvl:(rf fin al w d).length=lv.length:=by rw [<- hlv,List.length_map]
  have hdeep:=fun (h:G.length<d) l=>TP (most:=most) (m:=0) hk hG hlv hn h l
  refine zF ⟨?_⟩
  refine az 0 [1,2,3,8,9,10,11,12,13,14,15] ⟨[(1,.sl w.length (HL.ints w)),(2,.int .i64 most),(3,.ptr [.sl fin.length (HL.bools fin),.sl al.length (recs aC al)] 0),(8,.ptr [.sl w.length (HL.ints w),.sl LF.length (bF LF),.sl N (HL.bools gb)] 0),(9,.sl lv.length (wds (lv.map (·.1)))),(10,.ref 0 [] 1 0 lv.length),(11,.ref 1 [] 1 0 ws.length),(12,.int .i64 d),(13,.ref 2 [] 1 0 0),(14,.ref 3 [] 1 0 0),(15,.int .i64 0)],[(0,.osl 1 lv.length (LX w lv)),(1,.osl 1 ws.length (wds ws)),(2,.osl 1 0 []),(3,.osl 1 0 [])],4⟩ (by rw [<- XN lv];rfl) ?_
  refine az 0 [1,2,3,8,9,10,11,12,13,14,15] ⟨[(1,.sl w.length (HL.ints w)),(2,.int .i64 most),(3,.ptr [.sl fin.length (HL.bools fin),.sl al.length (recs aC al)] 0),(8,.ptr [.sl w.length (HL.ints w),.sl LF.length (bF LF),.sl N (HL.bools gb)] 0),(9,.sl lv.length (wds (lv.map (·.1)))),(10,.sl lv.length (xn w lv)),(11,.ref 0 [] 1 0 ws.length),(12,.int .i64 d),(13,.ref 1 [] 1 0 0),(14,.ref 2 [] 1 0 0),(15,.int .i64 0)],[(0,.osl 1 ws.length (wds ws)),(1,.osl 1 0 []),(2,.osl 1 0 [])],3⟩ (by rw [<- Yy w lv];rfl) ?_
  refine aI [1,2,3,8,9,10,11,12,13,14,15] (fun s:Nat×List (List Int)×List (List Int×List Nd)=>s.1<=lv.length/\AR fin al w G.length d lv s.1 s.2.1 s.2.2/\s.2.1.length<=64+s.1/\s.2.2.length<=64*s.1)
   (fun s=>⟨[(1,.sl w.length (HL.ints w)),(2,.int .i64 most),(3,.ptr [.sl fin.length (HL.bools fin),.sl al.length (recs aC al)] 0),(8,.ptr [.sl w.length (HL.ints w),.sl LF.length (bF LF),.sl N (HL.bools gb)] 0),(9,.sl lv.length (wds (lv.map (·.1)))),(10,.sl lv.length (xn w lv)),(11,.ref 0 [] 1 0 s.2.1.length),(12,.int .i64 d),(13,.ref 1 [] 1 0 s.2.2.length),(14,.ref 2 [] 1 0 s.2.2.length),(15,.int .i64 s.1)],[(0,.osl 1 s.2.1.length (wds s.2.1)),(1,.osl 1 s.2.2.length (L8 s.2.2)),(2,.osl 1 s.2.2.length (LX w s.2.2))],3⟩)
   (fun s=>lv.length - s.1) (0,ws,[]) ⟨by simp,har,by simp;omega,by simp⟩ rfl ?_
  clear har hwl hws
  rintro ⟨k,ws,nxt⟩ ⟨hk0,har,hwl,hnl⟩
  simp only at hk0 har hwl hnl ⊢
  by_cases hkl:k<lv.length
  ·have hqm:lv.getD k default∈lv:=by rw [bH,bM hkl];exact gy _
   have hq:=hrw _ hqm
   have hql:(lv.getD k default).1.length=d:=Mc (fin:=fin) (w:=w) hk (by rw [<- hlv];exact Aa hqm)
   have hwn:=SB hkl
   have hcn:=Jp (w:=w) hkl
   obtain ⟨u,S,hqe⟩:∃u S,lv.getD k default=(u,S):=⟨_,_,rfl⟩
   rw [hqe] at hq hql hwn hcn
   simp only at hql hwn hcn
   have hSt:=hq.at_
   have hSl:=hq.len
   simp only at hSt hSl
   have hSi:∀x∈S,Ah fin.length w x:=fun x hx=>kX hin ((hSt x).1 hx).good
   have hout:=Td hSt hSi
   refine zF ⟨?_⟩
   refine aI [1,2,3,8,9,10,11,12,13,14,15,16,17] (fun j:Nat=>j<=S.length)
    (fun j=>⟨[(1,.sl w.length (HL.ints w)),(2,.int .i64 most),(3,.ptr [.sl fin.length (HL.bools fin),.sl al.length (recs aC al)] 0),(8,.ptr [.sl w.length (HL.ints w),.sl LF.length (bF LF),.sl N (HL.bools gb)] 0),(9,.sl lv.length (wds (lv.map (·.1)))),(10,.sl lv.length (xn w lv)),(11,.ref 0 [] 1 0 ws.length),(12,.int .i64 d),(13,.ref 1 [] 1 0 nxt.length),(14,.ref 2 [] 1 0 nxt.length),(15,.int .i64 k),(16,.bool ((S.take j).any (rD fin w))),(17,.int .i64 j)],[(0,.osl 1 ws.length (wds ws)),(1,.osl 1 nxt.length (L8 nxt)),(2,.osl 1 nxt.length (LX w nxt))],3⟩)
    (fun j=>S.length - j) 0 (by omega) rfl ?_
   intro j hj
   by_cases hjl:j<S.length
   ·have hxm:S.getD j default∈S:=by rw [bH,bM hjl];exact gy _
    have hxi:=hSi _ hxm
    have htk:=bK hjl
    generalize hxe:S.getD j default=x at hxm hxi htk
    have hdiv:=DN hxi
    have hmod:=DK hxi
    have hxc:=uQ hxi
    rw [hN] at hxc
    obtain ⟨g1,g2,g3,g4⟩:=hxi
    have hst:(S.take (j+1)).any (rD fin w)=((S.take j).any (rD fin w) || rD fin w x):=by rw [htk,List.any_append];simp
    cases hb0:(S.take j).any (rD fin w) with
    | true =>
     rw [hb0,lX] at hst
     refine eH (zA @hcn (zA @hxe @hdiv)) ⟨?_⟩
     exact aP [1,2,3,8,9,10,11,12,13,14,15,16,17] (j+1) hjl (by omega) (by simp only [hst];rfl)
    | false =>
     rw [hb0,kE] at hst
     cases hf:fin.getD x.1.toNat false with
     | false =>
      have hp:rD fin w x=false:=by simp only [rD,hf,Bool.and_false]
      rw [hp] at hst
      refine eH (zA @hcn (zA @hxe (zA @hdiv @hf))) ⟨?_⟩
      exact aP [1,2,3,8,9,10,11,12,13,14,15,16,17] (j+1) hjl (by omega) (by simp only [hst];rfl)
     | true =>
      by_cases he:x.2=w.length
      ·have hp:rD fin w x=true:=by simp only [rD,hf,Bool.and_true,he,decide_true]
       rw [hp] at hst
       refine eH (zA @hcn (zA @hxe (zA @hdiv (zA @hmod @hf)))) ⟨?_⟩
       exact aP [1,2,3,8,9,10,11,12,13,14,15,16,17] (j+1) hjl (by omega) (by simp only [hst];rfl)
      ·have hp:rD fin w x=false:=by simp only [rD,hf,Bool.and_true,he,decide_false]
       rw [hp] at hst
       refine eH (zA @hcn (zA @hxe (zA @hdiv (zA @hmod @hf)))) ⟨?_⟩
       exact aP [1,2,3,8,9,10,11,12,13,14,15,16,17] (j+1) hjl (by omega) (by simp only [hst];rfl)
   ·obtain rfl:j=S.length:=by omega
    rw [fK]
    cases hb0:S.any (rD fin w) with
    | false =>
     have hno:¬ Out fin al w u:=fun h=>by rw [hout.1 h] at hb0;cases hb0
     refine eH @hcn ⟨?_⟩
     refine jX (Weak.norm2 [1,2,3,8,9,10,11,12,13,14,15,19] _) ?_
     refine XE fin al w G gb most lv nxt ws k d u S LF N hkl hqe hLF hgl hv hw hG (by omega) hb hSt (by omega) (by omega) (by omega) hGn _ _ [6,7] _ (fun rows hrows hrrow hrl=>?_)
     have har':=har.step (rows:=rows) (wds':=ws) hkl (by rw [hqe];exact hrows) hrrow (by rw [hqe];rw [if_neg hno])
     refine zF ⟨?_⟩
     exact aP [1,2,3,8,9,10,11,12,13,14,15] (k+1,ws,nxt++rows) ⟨hkl,har',by simp only [bD,jQ];omega,by simp only [bD];omega⟩ dL rfl
    | true =>
     have hyes:=hout.2 hb0
     have hsn:=FW ws u
     by_cases hu:u=[]
     ·have hwr:wR u=.nils:=by rw [wR,if_pos hu]
      rw [hwr] at hwn hsn
      refine eH (zA @hcn (zA @hwn @hsn)) ⟨?_⟩
      have hwl1:(ws++[u]).length=ws.length+1:=by simp
      rw [<- hwl1]
      refine jX (Weak.norm2 [1,2,3,8,9,10,11,12,13,14,15,19] _) ?_
      refine XE fin al w G gb most lv nxt (ws++[u]) k d u S LF N hkl hqe hLF hgl hv hw hG (by omega) hb hSt (by omega) (by omega) (by omega) hGn _ _ [6,7] _ (fun rows hrows hrrow hrl=>?_)
      have har':=har.step (rows:=rows) (wds':=(ws++[u])) hkl (by rw [hqe];exact hrows) hrrow (by rw [hqe];rw [if_pos hyes])
      refine zF ⟨?_⟩
      exact aP [1,2,3,8,9,10,11,12,13,14,15] (k+1,(ws++[u]),nxt++rows) ⟨hkl,har',by simp only [bD,jQ];omega,by simp only [bD];omega⟩ dL rfl
     ·have hwr:wR u=.sl u.length (HL.ints u):=by rw [wR,if_neg hu]
      rw [hwr] at hwn hsn
      refine eH (zA @hcn (zA @hwn @hsn)) ⟨?_⟩
      have hwl1:(ws++[u]).length=ws.length+1:=by simp
      rw [<- hwl1]
      refine jX (Weak.norm2 [1,2,3,8,9,10,11,12,13,14,15,19] _) ?_
      refine XE fin al w G gb most lv nxt (ws++[u]) k d u S LF N hkl hqe hLF hgl hv hw hG (by omega) hb hSt (by omega) (by omega) (by omega) hGn _ _ [6,7] _ (fun rows hrows hrrow hrl=>?_)
      have har':=har.step (rows:=rows) (wds':=(ws++[u])) hkl (by rw [hqe];exact hrows) hrrow (by rw [hqe];rw [if_pos hyes])
      refine zF ⟨?_⟩
      exact aP [1,2,3,8,9,10,11,12,13,14,15] (k+1,(ws++[u]),nxt++rows) ⟨hkl,har',by simp only [bD,jQ];omega,by simp only [bD];omega⟩ dL rfl
  ·obtain rfl:k=lv.length:=by omega
   have hdn:=har.done (bg _)
   have hmo:=fun l (hl:Lst fin al w most l)=>har.mst hk hl
   by_cases l1:most<(ws.length:Int)
   ·refine zF ⟨?_⟩
    refine ae ?_
    exact .inr ⟨fun l hl=>by have:=(hmo l hl).1;omega,rfl⟩
   by_cases l2:most<(nxt.length:Int)
   ·refine zF ⟨?_⟩
    refine ae ?_
    exact .inr ⟨fun l hl=>by have:=(hmo l hl).2;omega,rfl⟩
   by_cases l3:(N:Int)<(d:Int)
   ·refine zF ⟨?_⟩
    refine ae ?_
    exact .inr ⟨fun l=>hdeep (by omega) l,rfl⟩
   refine zF ⟨?_⟩
   exact aP [1,2,3,8,9,10,11,12] (d+1,nxt,ws) ⟨hdn.2,har.nrow,hdn.1,by simp only;omega,by simp only;omega,by simp only;omega⟩ dL rfl
 ·obtain rfl:lv=[]:=List.length_eq_zero_iff.1 (by omega)
  have hle:rf fin al w d=[]:=by rw [<- hlv];rfl
  subst hws
  have hl:=RU hle hwl
  refine zF ⟨?_⟩
  refine ae ?_
  exact .inl ⟨_,hl,rfl⟩
end Go.Proofs.Ytlbdmpjnmfmnfaa
end
