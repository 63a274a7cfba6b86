import Derived.Test.YtlbdmpjnmfmnfaaFsV
import Derived.Test.YtlbdmpjnmfmnfaaFsL
set_option linter.unusedSimpArgs false
set_option linter.unusedVariables false
namespace Go.Proofs.Ytlbdmpjnmfmnfaa
open Go.RowKit Go.HL Go.FS
def pz (w:List Int) (lv:List (List Int×List Nd)):List HV:=lv.map fun q=>.sl q.2.length (oq w q.2)
def zT (w:List Int) (lv:List (List Int×List Nd)):List HV:=lv.map fun q=>.osl 1 q.2.length (oq w q.2)
def Ar (lv:List (List Int×List Nd)):List HV:=lv.map fun q=>wO q.1
theorem Ib (w:List Int) (lv:List (List Int×List Nd)):(pz w lv).length=lv.length:=by simp [pz]
theorem zO (w:List Int) (lv:List (List Int×List Nd)):(zT w lv).length=lv.length:=by simp [zT]
theorem Af (lv:List (List Int×List Nd)):(Ar lv).length=lv.length:=by simp [Ar]
theorem NU (w:List Int) (lv:List (List Int×List Nd)):win (zT w lv) 0 lv.length=zT w lv:=jc _ (zO w lv).symm
theorem Nr (lv:List (List Int×List Nd)):win (Ar lv) 0 lv.length=Ar lv:=jc _ (Af lv).symm
theorem Bq (w:List Int) (lv:List (List Int×List Nd)):win (zT w lv) 0 (lv.length*1)=zT w lv:=jc _ (by rw [zO];omega)
theorem Dq (lv:List (List Int×List Nd)):win (Ar lv) 0 (lv.length*1)=Ar lv:=jc _ (by rw [Af];omega)
theorem MS (w:List Int) (lv:List (List Int×List Nd)):stripL (win (zT w lv) 0 (lv.length*1))=pz w lv:=by
 rw [Bq]
 unfold zT pz
 induction lv with
 | nil=>rfl
 | cons q lv ih=>simp only [List.map_cons,stripL,HV.strip,uz];rw [ih]
theorem LY (lv:List (List Int×List Nd)):stripL (win (Ar lv) 0 (lv.length*1))=wds (lv.map (·.1)):=by
 rw [Dq]
 unfold Ar wds
 induction lv with
 | nil=>rfl
 | cons q lv ih=>simp only [List.map_cons,stripL,BQ];rw [ih]
theorem Bc (w:List Int) (lv:List (List Int×List Nd)) (u:List Int) (L:List Nd):zT w lv++[.osl 1 L.length (oq w L)]=zT w (lv++[(u,L)]):=by simp [zT]
theorem Dc (lv:List (List Int×List Nd)) (u:List Int) (s:Int) (L:List Nd):Ar lv++[.osl 1 (u.length+1) (HL.ints (u++[s]))]=Ar (lv++[(u++[s],L)]):=by simp [Ar,wO]
attribute [go_sem] List.length_map Ib zO Af NU Nr Bq Dq
theorem FN {lv:List (List Int×List Nd)} {k:Nat} (h:k<lv.length):(wds (lv.map (·.1))).getD k .dead=wR (lv.getD k default).1:=by simp [wds,h]
theorem yR {w:List Int} {lv:List (List Int×List Nd)} {k:Nat} (h:k<lv.length):(pz w lv).getD k .dead=.sl (lv.getD k default).2.length (oq w (lv.getD k default).2):=by simp [pz,h]
set_option maxHeartbeats 16000000 in
theorem L6 (fin:List Bool) (al:List A) (w:List Int) (G:List Nd) (gb:List Bool) (most:Int) (lv nxt:List (List Int×List Nd)) (ws:List (List Int)) (k d:Nat) (u:List Int) (S:List Nd) (LF:List (List A)) (N:Nat) (hkl:k<lv.length) (hqe:lv.getD k default=(u,S)) (hLF:bn (·.f) fin.length al=LF) (hgl:gb.length=N) (hv:okF fin al=true) (hw:w.length<=1024) (hG:∀x,x∈G <-> FS.Good fin al w x) (hGl:G.length<=4194304) (hb:GB fin.length w G gb) (hS:∀x,x∈S <-> FS.At fin al w u x) (hSl:S.length<=4198400) (hul:u.length<=8388608) (hnl:nxt.length<=8192)
  (hGn:G.Nodup) (C:HCode) (kk:List HI) [Plain kk] (rs:List Nat) (KK:HV->Prop) (hK:∀rows:List (List Int×List Nd),rows.map (·.1)=ext fin al w u->(∀q∈rows,Row fin al w G.length q)->rows.length<=64->hx Try.prog (.c C::kk) (finish rs KK) ⟨[(1,.sl w.length (HL.ints w)),(2,.int .i64 most),(3,.ptr [.sl fin.length (HL.bools fin),.sl al.length (recs aC al)] 0),(8,.ptr [.sl w.length (HL.ints w),.sl LF.length (dL LF),.sl N (HL.bools gb)] 0),(9,.sl lv.length (wds (lv.map (·.1)))),(10,.sl lv.length (pz w lv)),(11,.ref 0 [] 1 0 ws.length),(12,.int .i64 d),(13,.ref 1 [] 1 0 (nxt++rows).length),(14,.ref 2 [] 1 0 (nxt++rows).length),(15,.int .i64 k)],[(0,.osl 1 ws.length (wds ws)),(1,.osl 1 (nxt++rows).length (Ar (nxt++rows))),(2,.osl 1 (nxt++rows).length (zT w (nxt++rows)))],3⟩) :
  hx Try.prog (.c (.loop Jz)::.b 6::.b 3::.c C::kk) (finish rs KK) ⟨[(1,.sl w.length (HL.ints w)),(2,.int .i64 most),(3,.ptr [.sl fin.length (HL.bools fin),.sl al.length (recs aC al)] 0),(8,.ptr [.sl w.length (HL.ints w),.sl LF.length (dL LF),.sl N (HL.bools gb)] 0),(9,.sl lv.length (wds (lv.map (·.1)))),(10,.sl lv.length (pz w lv)),(11,.ref 0 [] 1 0 ws.length),(12,.int .i64 d),(13,.ref 1 [] 1 0 nxt.length),(14,.ref 2 [] 1 0 nxt.length),(15,.int .i64 k),(19,.int .i64 0)],[(0,.osl 1 ws.length (wds ws)),(1,.osl 1 nxt.length (Ar nxt)),(2,.osl 1 nxt.length (zT w nxt))],3⟩:=by
 obtain ⟨h1,h2,h3⟩:=iG hv
 have hby:=fun s hs=>LU fin al w G S gb s hs hv hw hG hb (fun x hx=>((hS x).1 hx).good) hSl
 rw [hLF] at hby
 simp only [xI,hgl] at hby
 have hwn:=FN hkl
 have hcn:=yR (w:=w) hkl
 rw [hqe] at hwn hcn
 simp only at hwn hcn
 have hSe:(fun x=>x∈S)=FS.At fin al w u:=funext fun x=>propext (hS x)
 refine bQ [1,2,3,8,9,10,11,12,13,14,15,19] (fun s:Nat×List (List Int×List Nd)=>s.1<=64/\s.2.map (·.1)=Ap fin al w u s.1/\s.2.length<=s.1/\∀q∈s.2,Row fin al w G.length q)
  (fun s=>⟨[(1,.sl w.length (HL.ints w)),(2,.int .i64 most),(3,.ptr [.sl fin.length (HL.bools fin),.sl al.length (recs aC al)] 0),(8,.ptr [.sl w.length (HL.ints w),.sl LF.length (dL LF),.sl N (HL.bools gb)] 0),(9,.sl lv.length (wds (lv.map (·.1)))),(10,.sl lv.length (pz w lv)),(11,.ref 0 [] 1 0 ws.length),(12,.int .i64 d),(13,.ref 1 [] 1 0 (nxt++s.2).length),(14,.ref 2 [] 1 0 (nxt++s.2).length),(15,.int .i64 k),(19,.int .i64 s.1)],[(0,.osl 1 ws.length (wds ws)),(1,.osl 1 (nxt++s.2).length (Ar (nxt++s.2))),(2,.osl 1 (nxt++s.2).length (zT w (nxt++s.2)))],3⟩)
  (fun s=>64 - s.1) (0,[]) ⟨by simp,by simp [Ap],by simp,by simp⟩ (by simp only [List.append_nil];rfl) ?_
 rintro ⟨s,rows⟩ ⟨hs0,hrows,hrl,hrow⟩
 simp only at hs0 hrows hrl hrow ⊢
 have hnr:(nxt++rows).length=nxt.length+rows.length:=by simp
 by_cases hsl:s<64
 ·have hstep:=yU (fin:=fin) (al:=al) (w:=w) u s
  have hb1:=hby (s:Int) (by omega)
  rw [hSe] at hb1
  have hbeg:Beg fin al w (u++[(s:Int)]) <-> ∃y,Cl fin al w (By fin al w (FS.At fin al w u) s) y:=by
   unfold Beg
   exact exists_congr fun y=>ny (by omega)
  have hex:∃r:HV,(∃L,r=.osl 1 L.length (oq w L)/\(∀x,x∈L <-> Cl fin al w (By fin al w (FS.At fin al w u) s) x)/\L.Nodup)/\r.deep=[]:=by
   classical
   refine ⟨_,⟨G.filter (fun x=>decide (Cl fin al w (By fin al w (FS.At fin al w u) s) x)),rfl,fun x=>?_,hGn.filter _⟩,kK _⟩
   simp only [List.mem_filter,decide_eq_true_eq]
   exact ⟨fun h=>h.2,fun h=>⟨(hG x).2 (oG (fun x ⟨_,_,_,hg⟩=>hg) h),h⟩⟩
  repeat (first|refine ah ?_|refine af ?_|refine ay ?_|refine ak ?_|refine au ?_|refine ae ?_|refine aA ?_|refine aH ?_)
  refine dG bu bu (fun _ _ r=>∃L,r=.osl 1 L.length (oq w L)/\(∀x,x∈L <-> Cl fin al w (By fin al w (FS.At fin al w u) s) x)/\L.Nodup) ?_
  repeat (first|refine ah ?_|refine aJ ?_|refine dB (by rfl) aG (by (try simp (disch:=omega) only [go_sem,hcn]);try rfl) ?_|refine gB (by rfl) aG (by (try simp (disch:=omega) only [go_sem,reduceIte,Nat.reduceEqDiff,Nat.reduceAdd,Nat.reduceMul,hcn]);try rfl) ?_)
  refine fD bW dm hb1 hex ?_
  rintro _ ⟨L,rfl,hL,hLn⟩ -
  refine ⟨(by simp only [bG,vX,HV.refFree,fO,HV.noRd,HL.ints_noRd,HL.bools_noRd,Bool.or_true,Bool.true_or,Bool.or_false,Bool.false_or,Bool.and_true,Bool.true_and,Bool.and_self,List.isEmpty_nil,beq_self_eq_true,List.cons_append,List.nil_append]),_,_,_,_,_,gY,(by decide),bT,?_⟩
  have hLl:L.length<=G.length:=fF hLn fun x hx=>(hG x).2 (oG (fun x ⟨_,_,_,hg⟩=>hg) ((hL x).1 hx))
  by_cases hL0:0<L.length
  ·rw [if_pos (hbeg.2 (by obtain ⟨y,hy⟩:=List.exists_mem_of_ne_nil L (List.length_pos_iff.1 hL0);exact ⟨y,(hL y).1 hy⟩))] at hstep
   have hl1:(rows++[(u++[(s:Int)],L)]).length=rows.length+1:=by simp
   have hrow':∀q∈rows++[(u++[(s:Int)],L)],Row fin al w G.length q:=fun q hq=>by
    rcases List.mem_append.1 hq with hq|hq
    ·exact hrow q hq
    ·simp only [List.mem_singleton] at hq
     subst hq
     exact ⟨fun x=>(hL x).trans (ny (by omega)).symm,by simp only;omega⟩
   by_cases hu:u=[]
   ·subst hu
    rw [show wR []=.nils from rfl] at hwn
    repeat (first|refine ah ?_|refine aJ ?_|refine dB (by rfl) aG (by (try simp (disch:=omega) only [go_sem,hwn]);try rfl) ?_|refine af ?_|refine eU (by rfl) (by rfl) (by (try simp (disch:=omega) only [go_sem,Int.reduceAdd,Int.reduceSub,Int.reduceMul,hwn]);try rfl) ?_|refine dO (by rfl) ?_|refine ak ?_|refine au ?_|refine ae ?_|refine dH ?_|refine bI ?_|refine bP ?_|refine iL dN (by rfl) aQ l7 (by (try simp (disch:=omega) only [go_sem,reduceIte,Nat.reduceEqDiff,Nat.reduceAdd,Nat.reduceMul,hwn]);try omega) aW (by (try simp (disch:=omega) only [go_sem,reduceIte,Nat.reduceEqDiff,Nat.reduceAdd,Nat.reduceMul,hwn]);try rfl) dN (by omega) fQ aG (by (try simp (disch:=omega) only [go_sem,reduceIte,Nat.reduceEqDiff,Nat.reduceAdd,Nat.reduceMul,hwn]);try rfl) aI ?_|refine oz dN bW aI iU (by simp) (by rfl) (by rfl) (by rfl) ?_|refine gp dN (by rfl) aQ l7 jk aW aI dN (by omega) fQ aG (by (try simp (disch:=omega) only [go_sem,reduceIte,Nat.reduceEqDiff,Nat.reduceAdd,Nat.reduceMul,hwn]);try rfl) aI (by rfl) ?_)
    exact bZ [1,2,3,8,9,10,11,12,13,14,15,19] (s+1,rows++[(([]:List Int)++[(s:Int)],L)]) ⟨hsl,by simp only [List.map_append,hrows,hstep];rfl,by simp only [hl1];omega,hrow'⟩ dX (by simp only [<- List.append_assoc,<- Bc,<- Dc,List.length_append,List.length_singleton];rfl)
   ·rw [show wR u=.sl u.length (HL.ints u) by rw [wR,if_neg hu]] at hwn
    have hu0:0<u.length:=List.length_pos_iff.2 hu
    repeat (first|refine ah ?_|refine aJ ?_|refine dB (by rfl) aG (by (try simp (disch:=omega) only [go_sem,hwn]);try rfl) ?_|refine af ?_|refine eU (by rfl) (by rfl) (by (try simp (disch:=omega) only [go_sem,Int.reduceAdd,Int.reduceSub,Int.reduceMul,hwn]);try rfl) ?_|refine dO (by rfl) ?_|refine ak ?_|refine au ?_|refine ae ?_|refine dH ?_|refine bI ?_|refine bP ?_|refine iL dN (by rfl) aQ l7 (by (try simp (disch:=omega) only [go_sem,reduceIte,Nat.reduceEqDiff,Nat.reduceAdd,Nat.reduceMul,hwn]);try omega) aW (by (try simp (disch:=omega) only [go_sem,reduceIte,Nat.reduceEqDiff,Nat.reduceAdd,Nat.reduceMul,hwn]);try rfl) dN (by omega) fQ aG (by (try simp (disch:=omega) only [go_sem,reduceIte,Nat.reduceEqDiff,Nat.reduceAdd,Nat.reduceMul,hwn]);try rfl) aI ?_|refine oz dN bW aI iU (by simp) (by rfl) (by rfl) (by rfl) ?_|refine gp dN (by rfl) aQ l7 jk aW aI dN (by omega) fQ aG (by (try simp (disch:=omega) only [go_sem,reduceIte,Nat.reduceEqDiff,Nat.reduceAdd,Nat.reduceMul,hwn]);try rfl) aI (by rfl) ?_)
    exact bZ [1,2,3,8,9,10,11,12,13,14,15,19] (s+1,rows++[(u++[(s:Int)],L)]) ⟨hsl,by simp only [List.map_append,hrows,hstep];rfl,by simp only [hl1];omega,hrow'⟩ dX (by simp only [<- List.append_assoc,<- Bc,<- Dc,List.length_append,List.length_singleton];rfl)
  ·rw [if_neg (fun h=>by obtain ⟨y,hy⟩:=hbeg.1 h;exact hL0 (List.length_pos_of_mem ((hL y).2 hy)))] at hstep
   repeat (first|refine ah ?_|refine af ?_|refine bf ?_|refine dO (by rfl) ?_|refine ax ?_|refine au ?_|refine ae ?_|refine dH ?_|refine aH ?_|refine bI ?_)
   exact bZ [1,2,3,8,9,10,11,12,13,14,15,19] (s+1,rows) ⟨hsl,by rw [hrows,hstep],by simp only;omega,hrow⟩ dX rfl
 ·obtain rfl:s=64:=by omega
  repeat (first|refine ah ?_|refine af ?_|refine ay ?_|refine bC (by rfl) ?_|refine ax ?_|refine au ?_|refine ae ?_|refine dH ?_)
  refine iT (Weak.norm2 [1,2,3,8,9,10,11,12,13,14,15] _) ?_
  exact hK rows hrows hrow hrl
end Go.Proofs.Ytlbdmpjnmfmnfaa
