import Derived.Test.YtlbdmpjnmfmnfaaFwG
import Derived.Test.YtlbdmpjnmfmnfaaHlLo
set_option linter.unusedSimpArgs false
set_option linter.unusedVariables false
set_option linter.unnecessarySimpa false
set_option maxHeartbeats 8000000
namespace Go.Proofs.Ytlbdmpjnmfmnfaa
open Go.RowKit Go.HL Go.FS
theorem acX (L:List (List Int)) (u:List Int):win (iO L) 0 (L.length*1)++[HV.osl 1 u.length (HL.ints u)]=iO (L++[u]):=by
 rw [Nat.mul_one,show win (iO L) 0 L.length=iO L from eG _ (by rw [AA])];exact XR L u rfl
theorem acC {k:List HI} {rs:List Nat} {Kp:HV->Prop} [hp:Plain k] (a1 a2 a3 sz:Int) (dx:List (List Int)) (dsz:Int) (df:List Bool) (L:List (List Int)) (fn:List Bool) (i:Nat) (hi:i<dx.length) (hL:L.length<=100000) (hr:(dx.getD i []).length<=1000000)
  (h:hx Try.prog (.c abg::k) (finish rs Kp) ⟨[(1,.int .i64 a1),(2,.int .i64 a2),(3,.int .i64 a3),(4,.ptr [.int .i64 dsz,.sl dx.length (iT dx),.sl df.length (HL.bools df)] 0),(8,.pref 0 [] 0),(9,.pref 1 [] 0),(10,.int .i64 i)],[(0,.optr [.int .i64 0,.nils,.nils]),(1,.optr [.int .i64 sz,.osl 1 (L++[dx.getD i []]).length (iO (L++[dx.getD i []])),.osl 1 fn.length (HL.bools fn)])],2⟩) :
  hx Try.prog (.c Yx::k) (finish rs Kp) ⟨[(1,.int .i64 a1),(2,.int .i64 a2),(3,.int .i64 a3),(4,.ptr [.int .i64 dsz,.sl dx.length (iT dx),.sl df.length (HL.bools df)] 0),(8,.pref 0 [] 0),(9,.pref 1 [] 0),(10,.int .i64 i)],[(0,.optr [.int .i64 0,.nils,.nils]),(1,.optr [.int .i64 sz,.osl 1 L.length (iO L),.osl 1 fn.length (HL.bools fn)])],2⟩:=by
 have hg:=QJ dx hi
 obtain ⟨row,hrow⟩:∃row,dx.getD i []=row:=⟨_,rfl⟩
 rw [hrow] at hg hr h
 have hl:=Qq dx
 have hil:=HL.ints_len row
 unfold Yx
 refine aH ?_
 refine jC ?_
 refine yN ah ?_
 refine dH (.pref 1 [] 1) _ rfl rfl (by trivial) rfl ah ?_
 refine dH (.ref 1 [1] 1 0 L.length) _ rfl rfl (aZ rfl) rfl ah ?_
 refine xK (.ref 34 [] 1 0 0) [.put 34 (.osl 1 0 [])] rfl rfl rfl ⟨trivial,rfl,rfl⟩ rfl rfl ah gY ?_
 refine dH (.ptr [.int .i64 dsz,.sl dx.length (iT dx),.sl df.length (HL.bools df)] 1) _ rfl rfl (by trivial) rfl ah ?_
 refine dH (.sl dx.length (iT dx)) [] rfl rfl (aZ rfl) (by simp [lV,qx,fO,HOp.map,HOp.vals,bZ,ax,aO,HV.deep,zx,bJ,jL]) ah ?_
 refine dH (.int .i64 i) _ rfl rfl (by trivial) rfl ah ?_
 refine dH (side:=0<=(i:Int)/\(i:Int)<dx.length) (.ptr (iT dx) (i*1)) [] rfl rfl ⟨by omega,by omega⟩ (by simp [lV,qx,fO,HOp.map,HOp.vals,bZ,ax,aO,HV.deep,zx,bJ,jL]) ah ?_
 refine dH (side:=i*1<(iT dx).length) (.sl row.length (HL.ints row)) [] rfl ?_ (by omega) (by simp [lV,qx,fO,HOp.map,HOp.vals,bZ,ax,aO,HV.deep,zx,bJ,jL]) ah ?_
 ·show ((iT dx).getD (i*1) .dead,[],i*1<(iT dx).length)=_
  rw [Nat.mul_one,hg]
 refine xK (R:=[68]) (side:=((HL.ints row).length=row.length*1/\fH (HL.ints row)=true)/\(0+row.length)*8<=140737488355328/\0+row.length<=maxLen/\1=1/\0+0*1<=0) (.ref 130 [] 1 0 row.length) [.put 34 .dead,.put 130 (.osl 1 row.length (HL.ints row))] rfl rfl ?_ ⟨⟨by omega,HL.ints_cell row⟩,by omega,by unfold maxLen;omega,rfl,by omega⟩ rfl (by simp [lV,qx,fO,HOp.map,HOp.vals,bZ,ax,aO,HV.deep,zx,bJ,jL]) ah gY ?_
 ·show (HV.ref 130 [] 1 0 (0+row.length),[Upd.put 34 .dead,.put 130 (.osl 1 (0+row.length) ([]++HL.ints row))],((HL.ints row).length=row.length*1/\fH (HL.ints row)=true)/\(0+row.length)*8<=140737488355328/\0+row.length<=maxLen/\1=1/\0+0*1<=0)=_
  rw [Nat.zero_add];rfl
 refine xK (.ref 146 [] 1 0 1) [.put 130 .dead,.put 146 (.osl 1 1 [.osl 1 row.length (HL.ints row)])] rfl rfl rfl ⟨⟨⟨rfl,rfl⟩,trivial⟩,rfl,rfl⟩ rfl rfl ah gY ?_
 refine xK (side:=([]=([]:List Nat)/\0=0/\1=1/\1=1/\fH [HV.osl 1 row.length (HL.ints row)]=true)/\(L.length+1)*24<=140737488355328/\L.length+1<=maxLen/\1=1/\0+L.length*1<=(iO L).length) (.ref 162 [] 1 0 (L.length+1)) [.put 146 .dead,.put 1 (.optr [.int .i64 sz,.dead,.osl 1 fn.length (HL.bools fn)]),.put 162 (.osl 1 (L.length+1) (iO (L++[row])))] rfl rfl ?_ ⟨⟨rfl,rfl,rfl,rfl,rfl⟩,by omega,by unfold maxLen;omega,rfl,by rw [AA];omega⟩ rfl rfl ah gY ?_
 ·show (HV.ref 162 [] 1 0 (L.length+1),[Upd.put 146 .dead,.put 1 (.optr [.int .i64 sz,.dead,.osl 1 fn.length (HL.bools fn)]),.put 162 (.osl 1 (L.length+1) (win (iO L) 0 (L.length*1)++[.osl 1 row.length (HL.ints row)]))],([]=([]:List Nat)/\0=0/\1=1/\1=1/\fH [HV.osl 1 row.length (HL.ints row)]=true)/\(L.length+1)*24<=140737488355328/\L.length+1<=maxLen/\1=1/\0+L.length*1<=(iO L).length)=_
  rw [acX]
 refine dH (.pref 1 [] 1) _ rfl rfl (by trivial) rfl ah ?_
 refine xK (side:=((0=0/\L.length+1=L.length+1)/\True)/\[HV.osl 1 (L.length+1) (iO (L++[row]))].length=1/\0<1/\1+1<=3/\(false=true->aV [HV.osl 1 (L.length+1) (iO (L++[row]))]=true)) .dead [.put 162 .dead,.kill 1 0,.put 1 (.optr [.int .i64 sz,.osl 1 (L.length+1) (iO (L++[row])),.osl 1 fn.length (HL.bools fn)])] rfl rfl rfl ⟨⟨⟨rfl,rfl⟩,trivial⟩,rfl,rO,by omega,fun h=>absurd h (by decide)⟩ rfl rfl ah gY ?_
 refine MW rfl ?_
 refine BP ?_
 rw [bD,jQ] at h
 exact aY [1,2,3,4,8,9,10] _ rfl h
theorem UA {L:Lk} {fr:Nat} {a b r:Int} (h:IntKind.i64.wrap (a - b)=r):ak L fr (.bin .sub (.int .i64 a) (.int .i64 b))=(.int .i64 r,[],IntKind.i64=IntKind.i64):=by subst h;rfl
theorem acT {k:List HI} {rs:List Nat} {Kp:HV->Prop} {x:HCode} [hp:Plain k] (sz:Int) (L:List (List Int)) (fn:List Bool) (K n:Nat) (hn:L.length=n) (hK:K<n) (hf:(L.getD K []).length<=200000)
  (h:hx Try.prog (.c x::k) (finish rs Kp) ⟨[(8,.pref 0 [] 0),(9,.pref 1 [] 0)],[(0,.optr [.int .i64 0,.nils,.nils]),(1,(.optr [.int .i64 sz,.osl 1 n (iO (L.set K (L.getD K []++[0]))),.osl 1 fn.length (HL.bools fn)]))],2⟩) :
  hx Try.prog (.c YJ::.b 2::.c x::k) (finish rs Kp) ⟨[(8,.pref 0 [] 0),(9,.pref 1 [] 0),(11,.int .i64 K)],[(0,.optr [.int .i64 0,.nils,.nils]),(1,(.optr [.int .i64 sz,.osl 1 n (iO L),.osl 1 fn.length (HL.bools fn)]))],2⟩:=by
 have hro:=YF L K (L.getD K []++[(0:Int)]) .dead (n:=(L.getD K []).length+1) (by simp)
 have hg:=GV L (i:=K) (by omega)
 obtain ⟨r,hr⟩:∃r,L.getD K []=r:=⟨_,rfl⟩
 rw [hr] at hro hg hf h
 have hl:=AA L
 unfold YJ
 refine yN ah ?_
 refine dH (.pref 1 [] 1) _ rfl rfl (by trivial) rfl ah ?_
 refine dH (.ref 1 [1] 1 0 n) _ rfl rfl (aZ rfl) rfl ah ?_
 refine dH (.int .i64 K) _ rfl rfl (by trivial) rfl ah ?_
 refine dH (.pref 1 [] 1) _ rfl rfl (by trivial) rfl ah ?_
 refine dH (.ref 1 [1] 1 0 n) _ rfl rfl (aZ rfl) rfl ah ?_
 refine dH (.int .i64 K) _ rfl rfl (by trivial) rfl ah ?_
 refine dH (side:=(0:Int)<=K/\(K:Int)<n/\1=1) (.pref 1 [1] K) _ rfl ?_ ⟨by omega,by omega,rfl⟩ rfl ah ?_
 ·show (HV.pref 1 [1] (0+(K:Int).toNat*1),([]:List Upd),(0:Int)<=K/\(K:Int)<n/\1=1)=_
  rw [show 0+(K:Int).toNat*1=K by omega]
 refine dH (side:=K<(iO L).length) (.ref 1 [1,K] 1 0 r.length) _ rfl ?_ (by omega) rfl ah ?_
 ·show (Go.HL.look 1 [1] K ((iO L).getD K .dead),([]:List Upd),K<(iO L).length)=_
  rw [hg];rfl
 refine xK (.ref 130 [] 1 0 1) [.put 130 (.osl 1 1 [.int .i64 0])] rfl rfl rfl ⟨⟨trivial,trivial⟩,rfl,rfl⟩ rfl rfl ah gY ?_
 refine xK (W:=[2,292,293]) (R:=[2,260]) (side:=(1=1/\0+1*1<=1/\true=true)/\(r.length+1)*8<=140737488355328/\r.length+1<=maxLen/\1=1/\0+r.length*1<=(HL.ints r).length) (.ref 146 [] 1 0 (r.length+1)) [.put 1 (.optr [.int .i64 sz,.osl 1 n ((iO L).set K .dead),.osl 1 fn.length (HL.bools fn)]),.put 146 (.osl 1 (r.length+1) (HL.ints (r++[(0:Int)])))] rfl rfl ?_ ⟨⟨rfl,by omega,rfl⟩,by omega,by unfold maxLen;omega,rfl,by rw [HL.ints_len];omega⟩ rfl rfl ah gY ?_
 ·have hwn:win (HL.ints r) 0 (r.length*1)++[HV.int .i64 0]=HL.ints (r++[(0:Int)]):=by
   rw [qA _ (by omega)];simp [HL.ints]
  have hng:aB (.optr [.int .i64 sz,.osl 1 n (iO L),.osl 1 fn.length (HL.bools fn)]) [1,K]=.osl 1 r.length (HL.ints r):=hg
  refine (JG (L:=fun j=>ax j [(130,HV.osl 1 1 [HV.int .i64 0]),(0,.optr [.int .i64 0,.nils,.nils]),(1,(.optr [.int .i64 sz,.osl 1 n (iO L),.osl 1 fn.length (HL.bools fn)]))]) (fr:=146) (bytes:=8) (off:=0) (n:=r.length) (sz2:=1) (id:=1) (p:=[1,K]) (w:=.ref 130 [] 1 0 1) (fl:=true) (sz:=1) (us:=[]) (m:=1) (ws:=[HV.int .i64 0]) (cond:=1=1/\0+1*1<=1/\true=true) rfl hng).trans ?_
  simp only [hwn]
  rfl
 refine dH (side:=(0:Int)<=K/\(K:Int)<n/\1=1) (.pref 1 [1] K) _ rfl ?_ ⟨by omega,by omega,rfl⟩ rfl ah ?_
 ·show (HV.pref 1 [1] (0+(K:Int).toNat*1),([]:List Upd),(0:Int)<=K/\(K:Int)<n/\1=1)=_
  rw [show 0+(K:Int).toNat*1=K by omega]
 refine xK (W:=[292,293,2,3]) (R:=[2,292]) (side:=((0=0/\r.length+1=r.length+1)/\True)/\[HV.osl 1 (r.length+1) (HL.ints (r++[(0:Int)]))].length=1/\0<1/\K+1<=((iO L).set K .dead).length/\(false=true->aV [HV.osl 1 (r.length+1) (HL.ints (r++[(0:Int)]))]=true)) .dead [.put 146 .dead,.kill 1 1,.put 1 (.optr [.int .i64 sz,.osl 1 n (iO (L.set K (r++[0]))),.osl 1 fn.length (HL.bools fn)])] rfl rfl ?_ ⟨⟨⟨rfl,rfl⟩,trivial⟩,rfl,rO,by rw [List.length_set];omega,fun h=>absurd h (by decide)⟩ rfl rfl ah gY ?_
 ·show (HV.dead,[Upd.put 146 .dead,.kill 1 1,.put 1 (.optr [.int .i64 sz,.osl 1 n (((iO L).set K .dead).set K (.osl 1 (r.length+1) (HL.ints (r++[(0:Int)])))),.osl 1 fn.length (HL.bools fn)])],((0=0/\r.length+1=r.length+1)/\True)/\[HV.osl 1 (r.length+1) (HL.ints (r++[(0:Int)]))].length=1/\0<1/\K+1<=((iO L).set K .dead).length/\(false=true->aV [HV.osl 1 (r.length+1) (HL.ints (r++[(0:Int)]))]=true))=_
  rw [hro]
 refine MW rfl ?_
 refine BP ?_
 exact aY [8,9] _ rfl h
theorem ace {k:List HI} {rs:List Nat} {Kp:HV->Prop} {x:HCode} [hp:Plain k] (sz b:Int) (L:List (List Int)) (fn:List Bool) (K S n:Nat) (hn:L.length=n) (hn1:n<=100000) (hK:K<n) (hS:S<(L.getD K []).length) (hb : -9223372036854775808<=b/\b<=9223372036854775807)
  (h:∀z:Int,hx Try.prog (.c x::k) (finish rs Kp) ⟨[(8,.pref 0 [] 0),(9,.pref 1 [] 0)],[(0,.optr [.int .i64 0,.nils,.nils]),(1,(.optr [.int .i64 sz,.osl 1 n (iO (L.set K ((L.getD K []).set S z))),.osl 1 fn.length (HL.bools fn)]))],2⟩) :
  hx Try.prog (.c Wp::.b 2::.c x::k) (finish rs Kp) ⟨[(8,.pref 0 [] 0),(9,.pref 1 [] 0),(3,.int .i64 b),(11,.int .i64 K),(12,.int .i64 S)],[(0,.optr [.int .i64 0,.nils,.nils]),(1,(.optr [.int .i64 sz,.osl 1 n (iO L),.osl 1 fn.length (HL.bools fn)]))],2⟩:=by
 have hg:=GV L (i:=K) (by omega)
 obtain ⟨r,hr⟩:∃r,L.getD K []=r:=⟨_,rfl⟩
 rw [hr] at hg hS h
 have hl:=AA L
 unfold Wp
 refine ve (DS.of fun _ _ v=>∃y:Nat,v=.int .i64 y/\y<4) ah ?_
 refine dP (.pref 1 [] 1) _ rfl rfl (by trivial) rfl ah ?_
 refine dP (.ref 1 [1] 1 0 n) _ rfl rfl (aZ rfl) rfl ah ?_
 refine dP (.int .i64 K) _ rfl rfl (by trivial) rfl ah ?_
 refine dP (side:=(0:Int)<=K/\(K:Int)<n/\1=1) (.pref 1 [1] K) _ rfl ?_ ⟨by omega,by omega,rfl⟩ rfl ah ?_
 ·show (HV.pref 1 [1] (0+(K:Int).toNat*1),([]:List Upd),(0:Int)<=K/\(K:Int)<n/\1=1)=_
  rw [show 0+(K:Int).toNat*1=K by omega]
 refine dP (side:=K<(iO L).length) (.ref 1 [1,K] 1 0 r.length) _ rfl ?_ (by omega) rfl ah ?_
 ·show (Go.HL.look 1 [1] K ((iO L).getD K .dead),([]:List Upd),K<(iO L).length)=_
  rw [hg];rfl
 refine dP (.int .i64 S) _ rfl rfl (by trivial) rfl ah ?_
 refine dP (.pref 1 [] 1) _ rfl rfl (by trivial) rfl ah ?_
 refine dP (.ref 1 [1] 1 0 n) _ rfl rfl (aZ rfl) rfl ah ?_
 refine dP (.int .i64 n) _ rfl rfl (by trivial) rfl ah ?_
 refine dP (side:=IntKind.i64=IntKind.i64) (.int .i64 ((n:Int) - 1)) _ rfl ?_ rfl rfl ah ?_
 ·exact UA (a:=n) (b:=1) (by rw [IntWalk.i64_in _ (by omega)])
 refine dP (.pref 1 [] 1) _ rfl rfl (by trivial) rfl ah ?_
 refine dP (.ref 1 [1] 1 0 n) _ rfl rfl (aZ rfl) rfl ah ?_
 refine dP (.int .i64 n) _ rfl rfl (by trivial) rfl ah ?_
 refine Bg (.ref 210 [] 1 0 4) [.put 210 (.osl 1 4 [.int .i64 (-1),.int .i64 0,.int .i64 ((n:Int) - 1),.int .i64 n])] rfl rfl rfl zV rfl rfl ah gY ?_
 refine dP (.int .i64 b) _ rfl rfl (by trivial) rfl ah ?_
 refine tN (vs:=[.int .i64 b,.int .i64 4]) (args:=[.int .i64 b,.int .i64 (4:Nat)]) rfl rfl rfl (mO b 4 (by omega) (by omega) hb.1 hb.2) ⟨.int .i64 (0:Nat),⟨0,rfl,by omega⟩,rfl⟩ rfl ?_
 rintro _ ⟨y,rfl,hy⟩ -
 refine ⟨by simp [HV.noRd],_,_,_,_,_,_,rfl,by simp [stride],rfl,by kernel_rfl,gY,?_⟩
 obtain ⟨z,hz⟩:∃z:Int,[HV.int .i64 (-1),.int .i64 0,.int .i64 ((n:Int) - 1),.int .i64 n].getD y .dead=.int .i64 z:=by
  obtain rfl|rfl|rfl|rfl:y=0\/y=1\/y=2\/y=3:=by omega
  ·exact ⟨_,rfl⟩
  ·exact ⟨_,rfl⟩
  ·exact ⟨_,rfl⟩
  ·exact ⟨_,rfl⟩
 refine dP (side:=(0:Int)<=y/\(y:Int)<(4:Nat)/\1=1) (.pref 210 [] y) _ rfl ?_ ⟨by omega,by omega,rfl⟩ rfl ah ?_
 ·show (HV.pref 210 [] (0+(y:Int).toNat*1),([]:List Upd),(0:Int)<=y/\(y:Int)<(4:Nat)/\1=1)=_
  rw [show 0+(y:Int).toNat*1=y by omega]
 refine dP (side:=y<4) (.int .i64 z) _ rfl ?_ hy rfl ah ?_
 ·show (Go.HL.look 210 [] y ([HV.int .i64 (-1),.int .i64 0,.int .i64 ((n:Int) - 1),.int .i64 n].getD y .dead),([]:List Upd),y<4)=_
  rw [hz];rfl
 refine dP (side:=(0:Int)<=S/\(S:Int)<r.length/\1=1) (.pref 1 [1,K] S) _ rfl ?_ ⟨by omega,by omega,rfl⟩ rfl ah ?_
 ·show (HV.pref 1 [1,K] (0+(S:Int).toNat*1),([]:List Upd),(0:Int)<=S/\(S:Int)<r.length/\1=1)=_
  rw [show 0+(S:Int).toNat*1=S by omega]
 have hset:(iO L).set K (.osl 1 r.length (setFrom (HL.ints r) S [.int .i64 z]))=iO (L.set K (r.set S z)):=by
  have e:setFrom (HL.ints r) S [.int .i64 z]=HL.ints (r.set S z):=by
   show (HL.ints r).set S (.int .i64 z)=_
   exact HL.ints_set r z
  rw [e]
  simp [iO,List.map_set]
 have hset0:dI (di (setFrom (bn (aB (.optr [.int .i64 sz,.osl 1 n (iO L),.osl 1 fn.length (HL.bools fn)]) [1,K])) S [.int .i64 z]) (aB (.optr [.int .i64 sz,.osl 1 n (iO L),.osl 1 fn.length (HL.bools fn)]) [1,K])) (.optr [.int .i64 sz,.osl 1 n (iO L),.osl 1 fn.length (HL.bools fn)]) [1,K]=(.optr [.int .i64 sz,.osl 1 n (iO (L.set K (r.set S z))),.osl 1 fn.length (HL.bools fn)]):=by
  have hng:aB (.optr [.int .i64 sz,.osl 1 n (iO L),.osl 1 fn.length (HL.bools fn)]) [1,K]=.osl 1 r.length (HL.ints r):=hg
  rw [hng,<- hset]
  rfl
 refine Bg (side:=(True/\True)/\[HV.int .i64 z].length=1/\0<1/\S+1<=(bn (aB (.optr [.int .i64 sz,.osl 1 n (iO L),.osl 1 fn.length (HL.bools fn)]) [1,K])).length/\(true=true->aV [HV.int .i64 z]=true)) .dead [.put 1 (.optr [.int .i64 sz,.osl 1 n (iO (L.set K (r.set S z))),.osl 1 fn.length (HL.bools fn)])] rfl rfl ?_ ⟨⟨trivial,trivial⟩,rfl,rO,?_,fun _=>rfl⟩ rfl rfl ah gY ?_
 ·rw [<- hset0];rfl
 ·have hng:aB (.optr [.int .i64 sz,.osl 1 n (iO L),.osl 1 fn.length (HL.bools fn)]) [1,K]=.osl 1 r.length (HL.ints r):=hg
  rw [hng]
  show S+1<=(HL.ints r).length
  rw [HL.ints_len];omega
 refine JA rfl ?_
 refine BP ?_
 exact aY [8,9] _ rfl (h z)
end Go.Proofs.Ytlbdmpjnmfmnfaa
