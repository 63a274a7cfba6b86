import Derived.Test.YtlbdmpjnmfmnfaaFsV
import Derived.Test.YtlbdmpjnmfmnfaaFsL
set_option linter.unusedSimpArgs false
set_option linter.unusedVariables false
namespace Go.Proofs.Ytlbdmpjnmfmnfaa
open Go.RowKit Go.HL Go.FS
def pG (w:List Int) (lv:List (List Int×List Nd)):List HV:=lv.map fun q=>.sl q.2.length (oq w q.2)
def zy (w:List Int) (lv:List (List Int×List Nd)):List HV:=lv.map fun q=>.osl 1 q.2.length (oq w q.2)
def Ar (lv:List (List Int×List Nd)):List HV:=lv.map fun q=>wO q.1
theorem I7 (w:List Int) (lv:List (List Int×List Nd)):(pG w lv).length=lv.length:=by simp [pG]
theorem zM (w:List Int) (lv:List (List Int×List Nd)):(zy w lv).length=lv.length:=by simp [zy]
theorem Am (lv:List (List Int×List Nd)):(Ar lv).length=lv.length:=by simp [Ar]
theorem NZ (w:List Int) (lv:List (List Int×List Nd)):win (zy w lv) 0 lv.length=zy w lv:=jc _ (zM w lv).symm
theorem Oc (lv:List (List Int×List Nd)):win (Ar lv) 0 lv.length=Ar lv:=jc _ (Am lv).symm
theorem AB (w:List Int) (lv:List (List Int×List Nd)):win (zy w lv) 0 (lv.length*1)=zy w lv:=jc _ (by rw [zM];omega)
theorem DD (lv:List (List Int×List Nd)):win (Ar lv) 0 (lv.length*1)=Ar lv:=jc _ (by rw [Am];omega)
theorem JK (w:List Int) (lv:List (List Int×List Nd)):stripL (win (zy w lv) 0 (lv.length*1))=pG w lv:=by
 rw [AB]
 unfold zy pG
 induction lv with
 | nil=>rfl
 | cons q lv ih=>simp only [List.map_cons,stripL,HV.strip,uH];rw [ih]
theorem MZ (lv:List (List Int×List Nd)):stripL (win (Ar lv) 0 (lv.length*1))=wds (lv.map (·.1)):=by
 rw [DD]
 unfold Ar wds
 induction lv with
 | nil=>rfl
 | cons q lv ih=>simp only [List.map_cons,stripL,BG];rw [ih]
theorem Ce (w:List Int) (lv:List (List Int×List Nd)) (u:List Int) (L:List Nd):zy w lv++[.osl 1 L.length (oq w L)]=zy w (lv++[(u,L)]):=by simp [zy]
theorem Bz (lv:List (List Int×List Nd)) (u:List Int) (s:Int) (L:List Nd):Ar lv++[.osl 1 (u.length+1) (HL.ints (u++[s]))]=Ar (lv++[(u++[s],L)]):=by simp [Ar,wO]
attribute [go_sem] List.length_map I7 zM Am NZ Oc AB DD
theorem FT {lv:List (List Int×List Nd)} {k:Nat} (h:k<lv.length):(wds (lv.map (·.1))).getD k .dead=wR (lv.getD k default).1:=by simp [wds,h]
theorem yE {w:List Int} {lv:List (List Int×List Nd)} {k:Nat} (h:k<lv.length):(pG w lv).getD k .dead=.sl (lv.getD k default).2.length (oq w (lv.getD k default).2):=by simp [pG,h]
set_option maxHeartbeats 16000000 in
theorem Jj (fin:List Bool) (al:List A) (w:List Int) (G:List Nd) (gb:List Bool) (most:Int) (lv nxt:List (List Int×List Nd)) (ws:List (List Int)) (k d:Nat) (u:List Int) (S:List Nd) (LF:List (List A)) (N:Nat) (hkl:k<lv.length) (hqe:lv.getD k default=(u,S)) (hLF:bn (·.f) fin.length al=LF) (hgl:gb.length=N) (hv:okF fin al=true) (hw:w.length<=1024) (hG:∀x,x∈G <-> FS.Good fin al w x) (hGl:G.length<=4194304) (hb:GB fin.length w G gb) (hS:∀x,x∈S <-> FS.At fin al w u x) (hSl:S.length<=4198400) (hul:u.length<=8388608) (hnl:nxt.length<=8192)
  (hGn:G.Nodup) (C:HCode) (kk:List HI) [Plain kk] (rs:List Nat) (KK:HV->Prop) (hK:∀rows:List (List Int×List Nd),rows.map (·.1)=ext fin al w u->(∀q∈rows,Row fin al w G.length q)->rows.length<=64->hx Try.prog (.c C::kk) (finish rs KK) ⟨[(1,.sl w.length (HL.ints w)),(2,.int .i64 most),(3,.ptr [.sl fin.length (HL.bools fin),.sl al.length (recs aC al)] 0),(8,.ptr [.sl w.length (HL.ints w),.sl LF.length (dL LF),.sl N (HL.bools gb)] 0),(9,.sl lv.length (wds (lv.map (·.1)))),(10,.sl lv.length (pG w lv)),(11,.ref 0 [] 1 0 ws.length),(12,.int .i64 d),(13,.ref 1 [] 1 0 (nxt++rows).length),(14,.ref 2 [] 1 0 (nxt++rows).length),(15,.int .i64 k)],[(0,.osl 1 ws.length (wds ws)),(1,.osl 1 (nxt++rows).length (Ar (nxt++rows))),(2,.osl 1 (nxt++rows).length (zy w (nxt++rows)))],3⟩) :
  hx Try.prog (.c (.loop LK)::.b 6::.b 3::.c C::kk) (finish rs KK) ⟨[(1,.sl w.length (HL.ints w)),(2,.int .i64 most),(3,.ptr [.sl fin.length (HL.bools fin),.sl al.length (recs aC al)] 0),(8,.ptr [.sl w.length (HL.ints w),.sl LF.length (dL LF),.sl N (HL.bools gb)] 0),(9,.sl lv.length (wds (lv.map (·.1)))),(10,.sl lv.length (pG w lv)),(11,.ref 0 [] 1 0 ws.length),(12,.int .i64 d),(13,.ref 1 [] 1 0 nxt.length),(14,.ref 2 [] 1 0 nxt.length),(15,.int .i64 k),(19,.int .i64 0)],[(0,.osl 1 ws.length (wds ws)),(1,.osl 1 nxt.length (Ar nxt)),(2,.osl 1 nxt.length (zy w nxt))],3⟩:=by
 obtain ⟨h1,h2,h3⟩:=iF hv
 have hby:=fun s hs=>Jk fin al w G S gb s hs hv hw hG hb (fun x hx=>((hS x).1 hx).good) hSl
 rw [hLF] at hby
 simp only [wY,hgl] at hby
 have hwn:=FT hkl
 have hcn:=yE (w:=w) hkl
 rw [hqe] at hwn hcn
 simp only at hwn hcn
 have hSe:(fun x=>x∈S)=FS.At fin al w u:=funext fun x=>propext (hS x)
 refine bQ [1,2,3,8,9,10,11,12,13,14,15,19] (fun s:Nat×List (List Int×List Nd)=>s.1<=64/\s.2.map (·.1)=zD fin al w u s.1/\s.2.length<=s.1/\∀q∈s.2,Row fin al w G.length q)
  (fun s=>⟨[(1,.sl w.length (HL.ints w)),(2,.int .i64 most),(3,.ptr [.sl fin.length (HL.bools fin),.sl al.length (recs aC al)] 0),(8,.ptr [.sl w.length (HL.ints w),.sl LF.length (dL LF),.sl N (HL.bools gb)] 0),(9,.sl lv.length (wds (lv.map (·.1)))),(10,.sl lv.length (pG w lv)),(11,.ref 0 [] 1 0 ws.length),(12,.int .i64 d),(13,.ref 1 [] 1 0 (nxt++s.2).length),(14,.ref 2 [] 1 0 (nxt++s.2).length),(15,.int .i64 k),(19,.int .i64 s.1)],[(0,.osl 1 ws.length (wds ws)),(1,.osl 1 (nxt++s.2).length (Ar (nxt++s.2))),(2,.osl 1 (nxt++s.2).length (zy w (nxt++s.2)))],3⟩)
  (fun s=>64 - s.1) (0,[]) ⟨by simp,by simp [zD],by simp,by simp⟩ (by simp only [List.append_nil];rfl) ?_
 rintro ⟨s,rows⟩ ⟨hs0,hrows,hrl,hrow⟩
 simp only at hs0 hrows hrl hrow ⊢
 have hnr:(nxt++rows).length=nxt.length+rows.length:=by simp
 by_cases hsl:s<64
 ·have hstep:=yN (fin:=fin) (al:=al) (w:=w) u s
  have hb1:=hby (s:Int) (by omega)
  rw [hSe] at hb1
  have hbeg:Beg fin al w (u++[(s:Int)]) <-> ∃y,Cl fin al w (By fin al w (FS.At fin al w u) s) y:=by
   unfold Beg
   exact exists_congr fun y=>mY (by omega)
  have hex:∃r:HV,(∃L,r=.osl 1 L.length (oq w L)/\(∀x,x∈L <-> Cl fin al w (By fin al w (FS.At fin al w u) s) x)/\L.Nodup)/\r.deep=[]:=by
   classical
   refine ⟨_,⟨G.filter (fun x=>decide (Cl fin al w (By fin al w (FS.At fin al w u) s) x)),rfl,fun x=>?_,hGn.filter _⟩,kJ _⟩
   simp only [List.mem_filter,decide_eq_true_eq]
   exact ⟨fun h=>h.2,fun h=>⟨(hG x).2 (oZ (fun x ⟨_,_,_,hg⟩=>hg) h),h⟩⟩
  repeat (first|refine ah ?_|refine af ?_|refine ay ?_|refine ak ?_|refine au ?_|refine ae ?_|refine aA ?_|refine aH ?_)
  refine dG bu bu (fun _ _ r=>∃L,r=.osl 1 L.length (oq w L)/\(∀x,x∈L <-> Cl fin al w (By fin al w (FS.At fin al w u) s) x)/\L.Nodup) ?_
  repeat (first|refine ah ?_|refine aJ ?_|refine dA (by rfl) aG (by (try simp (disch:=omega) only [go_sem,hcn]);try rfl) ?_|refine gB (by rfl) aG (by (try simp (disch:=omega) only [go_sem,reduceIte,Nat.reduceEqDiff,Nat.reduceAdd,Nat.reduceMul,hcn]);try rfl) ?_)
  refine fD bW dm hb1 hex ?_
  rintro _ ⟨L,rfl,hL,hLn⟩ -
  refine ⟨(by simp only [bG,wF,HV.refFree,fM,HV.noRd,HL.ints_noRd,HL.bools_noRd,Bool.or_true,Bool.true_or,Bool.or_false,Bool.false_or,Bool.and_true,Bool.true_and,Bool.and_self,List.isEmpty_nil,beq_self_eq_true,List.cons_append,List.nil_append]),_,_,_,_,_,gY,(by decide),bT,?_⟩
  have hLl:L.length<=G.length:=fF hLn fun x hx=>(hG x).2 (oZ (fun x ⟨_,_,_,hg⟩=>hg) ((hL x).1 hx))
  by_cases hL0:0<L.length
  ·rw [if_pos (hbeg.2 (by obtain ⟨y,hy⟩:=List.exists_mem_of_ne_nil L (List.length_pos_iff.1 hL0);exact ⟨y,(hL y).1 hy⟩))] at hstep
   have hl1:(rows++[(u++[(s:Int)],L)]).length=rows.length+1:=by simp
   have hrow':∀q∈rows++[(u++[(s:Int)],L)],Row fin al w G.length q:=fun q hq=>by
    rcases List.mem_append.1 hq with hq|hq
    ·exact hrow q hq
    ·simp only [List.mem_singleton] at hq
     subst hq
     exact ⟨fun x=>(hL x).trans (mY (by omega)).symm,by simp only;omega⟩
   by_cases hu:u=[]
   ·subst hu
    rw [show wR []=.nils from rfl] at hwn
    repeat (first|refine ah ?_|refine aJ ?_|refine dA (by rfl) aG (by (try simp (disch:=omega) only [go_sem,hwn]);try rfl) ?_|refine af ?_|refine eU (by rfl) (by rfl) (by (try simp (disch:=omega) only [go_sem,Int.reduceAdd,Int.reduceSub,Int.reduceMul,hwn]);try rfl) ?_|refine dO (by rfl) ?_|refine ak ?_|refine au ?_|refine ae ?_|refine dH ?_|refine bI ?_|refine bP ?_|refine iM dN (by rfl) aQ l9 (by (try simp (disch:=omega) only [go_sem,reduceIte,Nat.reduceEqDiff,Nat.reduceAdd,Nat.reduceMul,hwn]);try omega) aW (by (try simp (disch:=omega) only [go_sem,reduceIte,Nat.reduceEqDiff,Nat.reduceAdd,Nat.reduceMul,hwn]);try rfl) dN (by omega) fP aG (by (try simp (disch:=omega) only [go_sem,reduceIte,Nat.reduceEqDiff,Nat.reduceAdd,Nat.reduceMul,hwn]);try rfl) aI ?_|refine oN dN bW aI iW (by simp) (by rfl) (by rfl) (by rfl) ?_|refine gp dN (by rfl) aQ l9 ji aW aI dN (by omega) fP aG (by (try simp (disch:=omega) only [go_sem,reduceIte,Nat.reduceEqDiff,Nat.reduceAdd,Nat.reduceMul,hwn]);try rfl) aI (by rfl) ?_)
    exact bZ [1,2,3,8,9,10,11,12,13,14,15,19] (s+1,rows++[(([]:List Int)++[(s:Int)],L)]) ⟨hsl,by simp only [List.map_append,hrows,hstep];rfl,by simp only [hl1];omega,hrow'⟩ dW (by simp only [<- List.append_assoc,<- Ce,<- Bz,List.length_append,List.length_singleton];rfl)
   ·rw [show wR u=.sl u.length (HL.ints u) by rw [wR,if_neg hu]] at hwn
    have hu0:0<u.length:=List.length_pos_iff.2 hu
    repeat (first|refine ah ?_|refine aJ ?_|refine dA (by rfl) aG (by (try simp (disch:=omega) only [go_sem,hwn]);try rfl) ?_|refine af ?_|refine eU (by rfl) (by rfl) (by (try simp (disch:=omega) only [go_sem,Int.reduceAdd,Int.reduceSub,Int.reduceMul,hwn]);try rfl) ?_|refine dO (by rfl) ?_|refine ak ?_|refine au ?_|refine ae ?_|refine dH ?_|refine bI ?_|refine bP ?_|refine iM dN (by rfl) aQ l9 (by (try simp (disch:=omega) only [go_sem,reduceIte,Nat.reduceEqDiff,Nat.reduceAdd,Nat.reduceMul,hwn]);try omega) aW (by (try simp (disch:=omega) only [go_sem,reduceIte,Nat.reduceEqDiff,Nat.reduceAdd,Nat.reduceMul,hwn]);try rfl) dN (by omega) fP aG (by (try simp (disch:=omega) only [go_sem,reduceIte,Nat.reduceEqDiff,Nat.reduceAdd,Nat.reduceMul,hwn]);try rfl) aI ?_|refine oN dN bW aI iW (by simp) (by rfl) (by rfl) (by rfl) ?_|refine gp dN (by rfl) aQ l9 ji aW aI dN (by omega) fP aG (by (try simp (disch:=omega) only [go_sem,reduceIte,Nat.reduceEqDiff,Nat.reduceAdd,Nat.reduceMul,hwn]);try rfl) aI (by rfl) ?_)
    exact bZ [1,2,3,8,9,10,11,12,13,14,15,19] (s+1,rows++[(u++[(s:Int)],L)]) ⟨hsl,by simp only [List.map_append,hrows,hstep];rfl,by simp only [hl1];omega,hrow'⟩ dW (by simp only [<- List.append_assoc,<- Ce,<- Bz,List.length_append,List.length_singleton];rfl)
  ·rw [if_neg (fun h=>by obtain ⟨y,hy⟩:=hbeg.1 h;exact hL0 (List.length_pos_of_mem ((hL y).2 hy)))] at hstep
   repeat (first|refine ah ?_|refine af ?_|refine bf ?_|refine dO (by rfl) ?_|refine ax ?_|refine au ?_|refine ae ?_|refine dH ?_|refine aH ?_|refine bI ?_)
   exact bZ [1,2,3,8,9,10,11,12,13,14,15,19] (s+1,rows) ⟨hsl,by rw [hrows,hstep],by simp only;omega,hrow⟩ dW rfl
 ·obtain rfl:s=64:=by omega
  repeat (first|refine ah ?_|refine af ?_|refine ay ?_|refine bD (by rfl) ?_|refine ax ?_|refine au ?_|refine ae ?_|refine dH ?_)
  refine iT (Weak.norm2 [1,2,3,8,9,10,11,12,13,14,15] _) ?_
  exact hK rows hrows hrow hrl
end Go.Proofs.Ytlbdmpjnmfmnfaa
