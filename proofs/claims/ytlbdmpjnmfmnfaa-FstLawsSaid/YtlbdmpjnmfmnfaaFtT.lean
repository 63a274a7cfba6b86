import Derived.Test.YtlbdmpjnmfmnfaaFs4
import Derived.Test.YtlbdmpjnmfmnfaaHlLg
set_option linter.unusedSimpArgs false
set_option linter.unusedVariables false
namespace Go.Proofs.Ytlbdmpjnmfmnfaa
open Go.RowKit Go.HL Go.FS
def iT (ll:List (List Int)):List HV:=ll.map fun l=>.sl l.length (HL.ints l)
def iO (ll:List (List Int)):List HV:=ll.map fun l=>.osl 1 l.length (HL.ints l)
theorem VO (ll:List (List Int)):(iT ll).length=ll.length:=by simp [iT]
theorem Ie (ll:List (List Int)):(iO ll).length=ll.length:=by simp [iO]
theorem yC (ll:List (List Int)):stripL (iO ll)=iT ll:=by
 induction ll with
 | nil=>rfl
 | cons l ll ih=>simp only [iO,List.map_cons,stripL,HV.strip,HL.ints_strip,iT] at ih ⊢;rw [ih]
theorem UT (ll:List (List Int)) {i:Nat} (h:i<ll.length):(iT ll).getD i .dead=.sl (ll.getD i []).length (HL.ints (ll.getD i [])):=by simp [iT,h]
theorem GH (ll:List (List Int)) {i:Nat} (h:i<ll.length):(iO ll).getD i .dead=.osl 1 (ll.getD i []).length (HL.ints (ll.getD i [])):=by simp [iO,h]
theorem Qu (ll:List (List Int)) (i:Nat) (l:List Int) (d:HV) {n:Nat} (hn:n=l.length):((iO ll).set i d).set i (.osl 1 n (HL.ints l))=iO (ll.set i l):=by subst hn;simp [iO,List.map_set]
theorem abC (n:Nat):(List.replicate n [HV.osl 1 0 []]).flatten=iO (List.replicate n []):=by
 induction n with
 | zero=>rfl
 | succ n ih=>rw [List.replicate_succ,List.flatten_cons,ih];rfl
theorem Rt (ll:List (List Int)):bF (iT ll)=[]:=by
 induction ll with
 | nil=>rfl
 | cons l ll ih=>simp only [iT,List.map_cons,bF,HV.deep,kJ,List.nil_append] at ih ⊢;exact ih
attribute [go_sem] VO Ie yC UT GH abC
def gy (p q:A->Int) (n:Nat) (l:List A):List (List Int):=(List.range n).map fun i:Nat=>(l.filter fun a=>p a==(i:Int)).map q
theorem tJ (p q:A->Int) (n:Nat) (l:List A):(gy p q n l).length=n:=by simp [gy]
theorem Kv (p q:A->Int) (n:Nat):gy p q n []=List.replicate n []:=by
 apply List.ext_getElem?
 intro i
 simp only [gy,List.filter_nil,List.map_nil,List.getElem?_map,List.getElem?_range,List.getElem?_replicate]
 split<;>simp_all
theorem wK (p q:A->Int) {n i:Nat} (l:List A) (h:i<n):(gy p q n l).getD i []=(l.filter fun a=>p a==(i:Int)).map q:=by simp [gy,h]
theorem sN {p q:A->Int} {n i:Nat} {l:List A}:((gy p q n l).getD i []).length<=l.length:=by
 by_cases h:i<n
 ·rw [wK p q l h,List.length_map];exact List.length_filter_le _ _
 ·have:(gy p q n l).getD i []=[]:=by simp [gy,h]
  rw [this];exact Nat.zero_le _
theorem zx {p q:A->Int} {n:Nat} {l:List A} {a:A} {j:Nat} (hj:p a=(j:Int)):(gy p q n l).set j ((gy p q n l).getD j []++[q a])=gy p q n (l++[a]):=by
 apply List.ext_getElem?
 intro i
 rw [List.getElem?_set]
 by_cases hi:i<n
 ·by_cases e:j=i
  ·subst e
   rw [wK p q l hi]
   simp [gy,hi,hj]
  ·have:¬ (j:Int)=(i:Int):=by omega
   simp [gy,hi,e,hj,this]
 ·simp [gy,hi]
  intro e;omega
theorem sO {p q:A->Int} {n i:Nat} {l:List A} {x:Int} (h:i<n):x∈(gy p q n l).getD i [] <-> ∃a∈l,p a=i/\q a=x:=by
 rw [wK p q l h]
 simp only [List.mem_map,List.mem_filter,beq_iff_eq]
 exact ⟨fun ⟨a,⟨h1,h2⟩,h3⟩=>⟨a,h1,h2,h3⟩,fun ⟨a,h1,h2,h3⟩=>⟨a,⟨h1,h2⟩,h3⟩⟩
theorem Ak {L:Lk} {fr sz bytes id sz2 off n m n2 s2:Nat} {fl:Bool} {p:List Nat} {w:HV} {ws cs:List HV} {us:List Upd} {cond:Prop} (hn:eU L fl sz w=(m,ws,us,cond)) (hg:aJ ((L.upd us) id) p=.osl s2 n2 cs):aA L fr (.app fl sz bytes (.ref id p sz2 off n) w) =
  (.ref fr [] sz 0 (n+m),us++[.put id (dP .dead ((L.upd us) id) p),.put fr (.osl sz (n+m) (win cs off (n*sz)++ws))],cond/\(n+m)*bytes<=140737488355328/\n+m<=maxLen/\sz2=sz/\off+n*sz<=cs.length):=by
 simp only [aA,hn,hg]
set_option maxHeartbeats 4000000 in
theorem J8 {k:List HI} {rs:List Nat} {Kp:HV->Prop} {x:HCode} [hp:Plain k] {S1 X1:List HV} {a:A} {m1 j1 n:Nat} {LA LB U':List (List Int)} (hU:LA.length=n) (hK0:0<=a.f) (hK:a.f<n) (hf:(LA.getD a.f.toNat []).length<=100000) (hU':LA.set a.f.toNat (LA.getD a.f.toNat []++[a.t])=U')
  (h:hx Try.prog (.c JP::k) (finish rs Kp) ⟨[(1,.ptr S1 0),(2,.pref 0 [] 0),(3,.pref 1 [] 0),(4,.pref 2 [] 0),(6,.ptr [.int .i64 a.f,.int .i64 a.i,.int .i64 a.o,.int .i64 a.t] 0),(28,.sl m1 X1),(29,.int .i64 m1),(30,.int .i64 j1)],[(0,.optr [.nils,.nils]),(1,.optr [.osl 1 n (iO U')]),(2,.optr [.osl 1 n (iO LB)])],3⟩) :
  hx Try.prog (.c Nc::k) (finish rs Kp) ⟨[(1,.ptr S1 0),(2,.pref 0 [] 0),(3,.pref 1 [] 0),(4,.pref 2 [] 0),(6,.ptr [.int .i64 a.f,.int .i64 a.i,.int .i64 a.o,.int .i64 a.t] 0),(28,.sl m1 X1),(29,.int .i64 m1),(30,.int .i64 j1)],[(0,.optr [.nils,.nils]),(1,.optr [.osl 1 n (iO LA)]),(2,.optr [.osl 1 n (iO LB)])],3⟩:=by
 have hro:=Qu LA a.f.toNat (LA.getD a.f.toNat []++[a.t]) .dead (n:=(LA.getD a.f.toNat []).length+1) (by simp)
 rw [hU'] at hro
 have hg:=GH LA (i:=a.f.toNat) (by omega)
 obtain ⟨r,hr⟩:∃r,LA.getD a.f.toNat []=r:=⟨_,rfl⟩
 rw [hr] at hro hg hf
 have hl:=Ie LA
 obtain ⟨K,hKe⟩:∃K,a.f.toNat=K:=⟨_,rfl⟩
 rw [hKe] at hro hg hr
 have hKi:a.f=(K:Int):=by omega
 rw [hKi]
 unfold Nc
 refine ak ?_
 refine yR aT ?_
 refine iR (.ref 1 [0] 1 0 n) _ rfl rfl (Nat.le_of_ble_eq_true rfl) rfl aT ?_
 refine iR (.ptr [.int .i64 K,.int .i64 a.i,.int .i64 a.o,.int .i64 a.t] 0) _ rfl rfl (by trivial) rfl aT ?_
 refine iR (.int .i64 K) _ rfl rfl (Nat.le_of_ble_eq_true rfl) rfl aT ?_
 refine iR (.ref 1 [0] 1 0 n) _ rfl rfl (Nat.le_of_ble_eq_true rfl) rfl aT ?_
 refine iR (.ptr [.int .i64 K,.int .i64 a.i,.int .i64 a.o,.int .i64 a.t] 0) _ rfl rfl (by trivial) rfl aT ?_
 refine iR (.int .i64 K) _ rfl rfl (Nat.le_of_ble_eq_true rfl) rfl aT ?_
 refine iR (side:=(0:Int)<=K/\(K:Int)<n/\1=1) (.pref 1 [0] K) _ rfl ?_ ⟨by omega,by omega,rfl⟩ rfl aT ?_
 ·show (HV.pref 1 [0] (0+(K:Int).toNat*1),([]:List Upd),(0:Int)<=K/\(K:Int)<n/\1=1)=_
  rw [show 0+(K:Int).toNat*1=K by omega]
 refine iR (side:=K<(iO LA).length) (.ref 1 [0,K] 1 0 r.length) _ rfl ?_ (by omega) rfl aT ?_
 ·show (Go.HL.look 1 [0] K ((iO LA).getD K .dead),([]:List Upd),K<(iO LA).length)=_
  rw [hg];rfl
 refine iR (.ptr [.int .i64 K,.int .i64 a.i,.int .i64 a.o,.int .i64 a.t] 3) _ rfl rfl (by trivial) rfl aT ?_
 refine iR (.int .i64 a.t) _ rfl rfl (Nat.le_of_ble_eq_true rfl) rfl aT ?_
 refine zU (.ref 163 [] 1 0 1) [.put 163 (.osl 1 1 [.int .i64 a.t])] rfl rfl rfl ⟨⟨trivial,trivial⟩,rfl,rfl⟩ rfl rfl aT kF ?_
 refine zU (W:=[2,358,359]) (R:=[2,326]) (side:=(1=1/\0+1*1<=1/\true=true)/\(r.length+1)*8<=140737488355328/\r.length+1<=maxLen/\1=1/\0+r.length*1<=(HL.ints r).length) (.ref 179 [] 1 0 (r.length+1)) [.put 1 (.optr [.osl 1 n ((iO LA).set K .dead)]),.put 179 (.osl 1 (r.length+1) (HL.ints (r++[a.t])))] rfl rfl ?_ ⟨⟨rfl,by omega,rfl⟩,by omega,by unfold maxLen;omega,rfl,by rw [HL.ints_len];omega⟩ rfl rfl aT kF ?_
 ·have hwn:win (HL.ints r) 0 (r.length*1)++[HV.int .i64 a.t]=HL.ints (r++[a.t]):=by
   rw [iD _ (by omega)];simp [HL.ints]
  have hng:aJ (.optr [.osl 1 n (iO LA)]) [0,K]=.osl 1 r.length (HL.ints r):=hg
  refine (Ak (L:=fun j=>aG j [(163,HV.osl 1 1 [HV.int .i64 a.t]),(0,.optr [.nils,.nils]),(1,.optr [.osl 1 n (iO LA)]),(2,.optr [.osl 1 n (iO LB)])]) (fr:=179) (bytes:=8) (off:=0) (n:=r.length) (sz2:=1) (id:=1) (p:=[0,K]) (w:=.ref 163 [] 1 0 1) (fl:=true) (sz:=1) (us:=[]) (m:=1) (ws:=[HV.int .i64 a.t]) (cond:=1=1/\0+1*1<=1/\true=true) rfl hng).trans ?_
  simp only [hwn]
  rfl
 refine iR (side:=(0:Int)<=K/\(K:Int)<n/\1=1) (.pref 1 [0] K) _ rfl ?_ ⟨by omega,by omega,rfl⟩ rfl aT ?_
 ·show (HV.pref 1 [0] (0+(K:Int).toNat*1),([]:List Upd),(0:Int)<=K/\(K:Int)<n/\1=1)=_
  rw [show 0+(K:Int).toNat*1=K by omega]
 refine zU (W:=[358,359,2,3]) (R:=[2,358]) (side:=((0=0/\r.length+1=r.length+1)/\True)/\[HV.osl 1 (r.length+1) (HL.ints (r++[a.t]))].length=1/\0<1/\K+1<=((iO LA).set K .dead).length/\(false=true->cZ [HV.osl 1 (r.length+1) (HL.ints (r++[a.t]))]=true)) .dead [.put 179 .dead,.kill 1 1,.put 1 (.optr [.osl 1 n (iO U')])] rfl rfl ?_ ⟨⟨⟨rfl,rfl⟩,trivial⟩,rfl,Nat.zero_lt_one,by rw [List.length_set];omega,fun h=>absurd h (by decide)⟩ rfl rfl aT kF ?_
 ·show (HV.dead,[Upd.put 179 .dead,.kill 1 1,.put 1 (.optr [.osl 1 n (((iO LA).set K .dead).set K (.osl 1 (r.length+1) (HL.ints (r++[a.t]))))])],((0=0/\r.length+1=r.length+1)/\True)/\[HV.osl 1 (r.length+1) (HL.ints (r++[a.t]))].length=1/\0<1/\K+1<=((iO LA).set K .dead).length/\(false=true->cZ [HV.osl 1 (r.length+1) (HL.ints (r++[a.t]))]=true))=_
  rw [hro]
 refine Py rfl ?_
 rw [hKi] at h
 exact dV [1,2,3,4,6,28,29,30] _ rfl h
set_option maxHeartbeats 4000000 in
theorem Ku {k:List HI} {rs:List Nat} {Kp:HV->Prop} {x:HCode} [hp:Plain k] {S1 X1:List HV} {a:A} {m1 j1 n:Nat} {LA LB U':List (List Int)} (hU:LB.length=n) (hK0:0<=a.t) (hK:a.t<n) (hf:(LB.getD a.t.toNat []).length<=100000) (hU':LB.set a.t.toNat (LB.getD a.t.toNat []++[a.f])=U')
  (h:hx Try.prog (.c x::k) (finish rs Kp) ⟨[(1,.ptr S1 0),(2,.pref 0 [] 0),(3,.pref 1 [] 0),(4,.pref 2 [] 0),(6,.ptr [.int .i64 a.f,.int .i64 a.i,.int .i64 a.o,.int .i64 a.t] 0),(28,.sl m1 X1),(29,.int .i64 m1),(30,.int .i64 j1)],[(0,.optr [.nils,.nils]),(1,.optr [.osl 1 n (iO LA)]),(2,.optr [.osl 1 n (iO U')])],3⟩) :
  hx Try.prog (.c JP::.b 1::.c x::k) (finish rs Kp) ⟨[(1,.ptr S1 0),(2,.pref 0 [] 0),(3,.pref 1 [] 0),(4,.pref 2 [] 0),(6,.ptr [.int .i64 a.f,.int .i64 a.i,.int .i64 a.o,.int .i64 a.t] 0),(28,.sl m1 X1),(29,.int .i64 m1),(30,.int .i64 j1)],[(0,.optr [.nils,.nils]),(1,.optr [.osl 1 n (iO LA)]),(2,.optr [.osl 1 n (iO LB)])],3⟩:=by
 have hro:=Qu LB a.t.toNat (LB.getD a.t.toNat []++[a.f]) .dead (n:=(LB.getD a.t.toNat []).length+1) (by simp)
 rw [hU'] at hro
 have hg:=GH LB (i:=a.t.toNat) (by omega)
 obtain ⟨r,hr⟩:∃r,LB.getD a.t.toNat []=r:=⟨_,rfl⟩
 rw [hr] at hro hg hf
 have hl:=Ie LB
 obtain ⟨K,hKe⟩:∃K,a.t.toNat=K:=⟨_,rfl⟩
 rw [hKe] at hro hg hr
 have hKi:a.t=(K:Int):=by omega
 rw [hKi]
 unfold JP
 refine yR aT ?_
 refine iR (.ref 2 [0] 1 0 n) _ rfl rfl (Nat.le_of_ble_eq_true rfl) rfl aT ?_
 refine iR (.ptr [.int .i64 a.f,.int .i64 a.i,.int .i64 a.o,.int .i64 K] 3) _ rfl rfl (by trivial) rfl aT ?_
 refine iR (.int .i64 K) _ rfl rfl (Nat.le_of_ble_eq_true rfl) rfl aT ?_
 refine iR (.ref 2 [0] 1 0 n) _ rfl rfl (Nat.le_of_ble_eq_true rfl) rfl aT ?_
 refine iR (.ptr [.int .i64 a.f,.int .i64 a.i,.int .i64 a.o,.int .i64 K] 3) _ rfl rfl (by trivial) rfl aT ?_
 refine iR (.int .i64 K) _ rfl rfl (Nat.le_of_ble_eq_true rfl) rfl aT ?_
 refine iR (side:=(0:Int)<=K/\(K:Int)<n/\1=1) (.pref 2 [0] K) _ rfl ?_ ⟨by omega,by omega,rfl⟩ rfl aT ?_
 ·show (HV.pref 2 [0] (0+(K:Int).toNat*1),([]:List Upd),(0:Int)<=K/\(K:Int)<n/\1=1)=_
  rw [show 0+(K:Int).toNat*1=K by omega]
 refine iR (side:=K<(iO LB).length) (.ref 2 [0,K] 1 0 r.length) _ rfl ?_ (by omega) rfl aT ?_
 ·show (Go.HL.look 2 [0] K ((iO LB).getD K .dead),([]:List Upd),K<(iO LB).length)=_
  rw [hg];rfl
 refine iR (.ptr [.int .i64 a.f,.int .i64 a.i,.int .i64 a.o,.int .i64 K] 0) _ rfl rfl (by trivial) rfl aT ?_
 refine iR (.int .i64 a.f) _ rfl rfl (Nat.le_of_ble_eq_true rfl) rfl aT ?_
 refine zU (.ref 163 [] 1 0 1) [.put 163 (.osl 1 1 [.int .i64 a.f])] rfl rfl rfl ⟨⟨trivial,trivial⟩,rfl,rfl⟩ rfl rfl aT kF ?_
 refine zU (W:=[4,358,359]) (R:=[4,326]) (side:=(1=1/\0+1*1<=1/\true=true)/\(r.length+1)*8<=140737488355328/\r.length+1<=maxLen/\1=1/\0+r.length*1<=(HL.ints r).length) (.ref 179 [] 1 0 (r.length+1)) [.put 2 (.optr [.osl 1 n ((iO LB).set K .dead)]),.put 179 (.osl 1 (r.length+1) (HL.ints (r++[a.f])))] rfl rfl ?_ ⟨⟨rfl,by omega,rfl⟩,by omega,by unfold maxLen;omega,rfl,by rw [HL.ints_len];omega⟩ rfl rfl aT kF ?_
 ·have hwn:win (HL.ints r) 0 (r.length*1)++[HV.int .i64 a.f]=HL.ints (r++[a.f]):=by
   rw [iD _ (by omega)];simp [HL.ints]
  have hng:aJ (.optr [.osl 1 n (iO LB)]) [0,K]=.osl 1 r.length (HL.ints r):=hg
  refine (Ak (L:=fun j=>aG j [(163,HV.osl 1 1 [HV.int .i64 a.f]),(0,.optr [.nils,.nils]),(1,.optr [.osl 1 n (iO LA)]),(2,.optr [.osl 1 n (iO LB)])]) (fr:=179) (bytes:=8) (off:=0) (n:=r.length) (sz2:=1) (id:=2) (p:=[0,K]) (w:=.ref 163 [] 1 0 1) (fl:=true) (sz:=1) (us:=[]) (m:=1) (ws:=[HV.int .i64 a.f]) (cond:=1=1/\0+1*1<=1/\true=true) rfl hng).trans ?_
  simp only [hwn]
  rfl
 refine iR (side:=(0:Int)<=K/\(K:Int)<n/\1=1) (.pref 2 [0] K) _ rfl ?_ ⟨by omega,by omega,rfl⟩ rfl aT ?_
 ·show (HV.pref 2 [0] (0+(K:Int).toNat*1),([]:List Upd),(0:Int)<=K/\(K:Int)<n/\1=1)=_
  rw [show 0+(K:Int).toNat*1=K by omega]
 refine zU (W:=[358,359,4,5]) (R:=[4,358]) (side:=((0=0/\r.length+1=r.length+1)/\True)/\[HV.osl 1 (r.length+1) (HL.ints (r++[a.f]))].length=1/\0<1/\K+1<=((iO LB).set K .dead).length/\(false=true->cZ [HV.osl 1 (r.length+1) (HL.ints (r++[a.f]))]=true)) .dead [.put 179 .dead,.kill 2 1,.put 2 (.optr [.osl 1 n (iO U')])] rfl rfl ?_ ⟨⟨⟨rfl,rfl⟩,trivial⟩,rfl,Nat.zero_lt_one,by rw [List.length_set];omega,fun h=>absurd h (by decide)⟩ rfl rfl aT kF ?_
 ·show (HV.dead,[Upd.put 179 .dead,.kill 2 1,.put 2 (.optr [.osl 1 n (((iO LB).set K .dead).set K (.osl 1 (r.length+1) (HL.ints (r++[a.f]))))])],((0=0/\r.length+1=r.length+1)/\True)/\[HV.osl 1 (r.length+1) (HL.ints (r++[a.f]))].length=1/\0<1/\K+1<=((iO LB).set K .dead).length/\(false=true->cZ [HV.osl 1 (r.length+1) (HL.ints (r++[a.f]))]=true))=_
  rw [hro]
 refine Py rfl ?_
 rw [hKi] at h
 refine fK ?_
 exact dV [1,2,3,4,6,28,29,30] _ rfl h
end Go.Proofs.Ytlbdmpjnmfmnfaa
