import Derived.Test.YtlbdmpjnmfmnfaaDmD
import Derived.Test.YtlbdmpjnmfmnfaaDmF
import Derived.Test.YtlbdmpjnmfmnfaaHlW
set_option linter.unusedSimpArgs false
set_option linter.unusedVariables false
set_option maxHeartbeats 16000000
namespace Go.Proofs.Ytlbdmpjnmfmnfaa
open Go.RowKit Go.HL Go.FS Go.MN
def qG (j n:Nat):List Int:=(List.range n).map fun t=>if t<j then -1 else 0
theorem TM (j n:Nat):(qG j n).length=n:=by simp [qG]
theorem Pi (n:Nat):qG 0 n=List.replicate n 0:=by
 apply qE
 ·simp [qG]
 ·intro j h1 h2;simp [qG]
theorem SS {j n:Nat} (h:j<n):(HL.ints (qG j n)).set j (.int .i64 (-1))=HL.ints (qG (j+1) n):=by
 have:(qG j n).set j (-1)=qG (j+1) n:=by
  apply qE
  ·simp [qG]
  ·intro t h1 h2
   simp only [qG,IZ,Jg,Gj]
   by_cases e:j=t
   ·subst e;simp
   ·simp only [e,if_false]
    have:(t<j)=(t<j+1):=by simp only [eq_iff_iff];omega
    simp only [this]
 rw [<- this];simp [HL.ints]
def Ik (L:List Nat) (n:Nat):List Int:=(List.range n).map fun k=>if k∈L then (L.idxOf k:Int) else -1
theorem ZK (L:List Nat) (n:Nat):(Ik L n).length=n:=by simp [Ik]
attribute [go_sem] TM ZK
theorem Yt (n:Nat):qG n n=Ik [] n:=by
 apply qE
 ·simp [qG,Ik]
 ·intro t h1 h2
  have:t<n:=by simpa [qG] using h1
  simp [qG,Ik,this]
theorem QW {L:List Nat} {n k:Nat} (h:k<n):(HL.ints (Ik L n)).getD k .dead=.int .i64 (if k∈L then (L.idxOf k:Int) else -1):=by simp [HL.ints,Ik,h]
theorem Ru {L:List Nat} {n k:Nat} (h:k<n) (hk:k ∉ L):(HL.ints (Ik L n)).set k (.int .i64 L.length)=HL.ints (Ik (L++[k]) n):=by
 have:(Ik L n).set k (L.length:Int)=Ik (L++[k]) n:=by
  apply qE
  ·simp [Ik]
  ·intro t h1 h2
   simp only [Ik,IZ,Jg,Gj]
   by_cases e:k=t
   ·subst e
    simp only [if_true,zl002,zl009,or_true]
    rw [MW,if_neg hk];simp
   ·simp only [e,if_false]
    by_cases ht:t∈L
    ·rw [if_pos ht,if_pos (zl002.2 (.inl ht)),Jr ht]
    ·rw [if_neg ht,if_neg (fun h=>by
      rcases zl002.1 h with h|h
      ·exact ht h
      ·exact e (zl009.1 h).symm)]
 rw [<- this];simp [HL.ints]
theorem Zd {d:Dz} (hv:okD d=true):HT Try.prog 88 [.agg (dC d)] (fun r=>r=.bool true):=by
 obtain ⟨h1,h2,h3,h4,h5⟩:=lD hv
 have hdv:=PL d (by omega) (by omega) (fun r hr=>by
  obtain ⟨i,hi,rfl⟩:=uD hr
  have:=(mO hv hi).1
  simp only [bf,bn hi,fV] at this
  omega)
 rw [hv] at hdv
 exact hdv
theorem abN {k:List HI} {rs:List Nat} {Kp:HV->Prop} {x:HCode} [hp:Plain k] (d:Dz) (c:Nat->Nat) (L Q:List Nat) (R:List (List Nat)) (F:List Bool) (i p:Nat) (b:Bool) (hQ:(HL.ints (nI Q)).getD i .dead=.int .i64 (p:Nat)) (hi:i<Q.length) (hp':(HL.bools d.fn).getD p .dead=.bool b) (hpn:p<d.fn.length) (hF:F.length<=100000)
  (h:hx Try.prog (.c x::k) (finish rs Kp) ⟨[(1,.ptr [.int .i64 d.sz,.sl d.nx.length (iT d.nx),.sl d.fn.length (HL.bools d.fn)] 0),(2,.pref 0 [] 0),(3,.ref 1 [] 1 0 d.nx.length),(4,.ref 2 [] 1 0 d.nx.length),(6,.ref 3 [] 1 0 Q.length),(7,.pref 4 [] 0),(8,.int .i64 (i:Nat))],[(0,.optr [.int .i64 0,.nils,.nils]),(1,.osl 1 d.nx.length (HL.ints (jm d.nx.length c))),(2,.osl 1 d.nx.length (HL.ints (Ik L d.nx.length))),(3,.osl 1 Q.length (HL.ints (nI Q))),(4,.optr [.int .i64 d.sz,.osl 1 R.length (iO (rI R)),.osl 1 (F++[b]).length (HL.bools (F++[b]))])],5⟩):hx Try.prog (.c OO::.b 3::.c x::k) (finish rs Kp) ⟨[(1,.ptr [.int .i64 d.sz,.sl d.nx.length (iT d.nx),.sl d.fn.length (HL.bools d.fn)] 0),(2,.pref 0 [] 0),(3,.ref 1 [] 1 0 d.nx.length),(4,.ref 2 [] 1 0 d.nx.length),(6,.ref 3 [] 1 0 Q.length),(7,.pref 4 [] 0),(8,.int .i64 (i:Nat))],[(0,.optr [.int .i64 0,.nils,.nils]),(1,.osl 1 d.nx.length (HL.ints (jm d.nx.length c))),(2,.osl 1 d.nx.length (HL.ints (Ik L d.nx.length))),(3,.osl 1 Q.length (HL.ints (nI Q))),(4,.optr [.int .i64 d.sz,.osl 1 R.length (iO (rI R)),.osl 1 F.length (HL.bools F)])],5⟩:=by
 unfold OO
 refine Nb aA ?_
 refine mD (.pref 4 [] 2) _ rfl rfl (by trivial) rfl aA ?_
 refine mD (.ref 4 [2] 1 0 F.length) _ rfl rfl (bF rfl) rfl aA ?_
 refine mD (.ptr [.int .i64 d.sz,.sl d.nx.length (iT d.nx),.sl d.fn.length (HL.bools d.fn)] 2) _ rfl rfl (by trivial) rfl aA ?_
 refine mD (.sl d.fn.length (HL.bools d.fn)) _ rfl rfl (bF rfl) rfl aA ?_
 refine mD (.ref 3 [] 1 0 Q.length) _ rfl rfl (by trivial) rfl aA ?_
 refine mD (.int .i64 (i:Nat)) _ rfl rfl (by trivial) rfl aA ?_
 refine mD (side:=(0:Int)<=i/\(i:Int)<Q.length/\1=1) (.pref 3 [] i) _ rfl ?_ ⟨by omega,by omega,rfl⟩ rfl aA ?_
 ·show (HV.pref 3 [] (0+(i:Int).toNat*1),([]:List Upd),(0:Int)<=i/\(i:Int)<Q.length/\1=1)=_
  rw [show 0+(i:Int).toNat*1=i by omega]
 refine mD (side:=i<(HL.ints (nI Q)).length) (.int .i64 (p:Nat)) _ rfl ?_ (by rw [HL.ints_len,zH];exact hi) rfl aA ?_
 ·show (Go.HL.look 3 [] i ((HL.ints (nI Q)).getD i .dead),([]:List Upd),i<(HL.ints (nI Q)).length)=_
  rw [hQ];rfl
 refine mD (side:=0<=(p:Int)/\(p:Int)<d.fn.length) (.ptr (HL.bools d.fn) (p*1)) _ rfl rfl ⟨by omega,by omega⟩ rfl aA ?_
 refine mD (side:=p*1<(HL.bools d.fn).length) (.bool b) _ rfl ?_ (by simp [HL.bools];exact hpn) rfl aA ?_
 ·show ((HL.bools d.fn).getD (p*1) .dead,([]:List Upd),p*1<(HL.bools d.fn).length)=_
  rw [Nat.mul_one,hp']
 refine Qb (.ref 165 [] 1 0 1) [.put 165 (.osl 1 1 [.bool b])] rfl rfl rfl ⟨⟨trivial,trivial⟩,rfl,rfl⟩ rfl rfl aA (by simp only [tV,Ae];rfl) ?_
 refine Qb (W:=[8,9,362,363]) (R:=[8,330]) (side:=(1=1/\0+1*1<=1/\true=true)/\(F.length+1)*1<=140737488355328/\F.length+1<=maxLen/\1=1/\0+F.length*1<=(HL.bools F).length) (.ref 181 [] 1 0 (F.length+1)) [.put 4 (.optr [.int .i64 d.sz,.osl 1 R.length (iO (rI R)),.dead]),.put 181 (HV.osl 1 (F.length+1) (HL.bools (F++[b])))] rfl rfl ?_ ⟨⟨rfl,by omega,rfl⟩,by omega,by unfold maxLen;omega,rfl,by simp [HL.bools]⟩ rfl rfl aA (by simp only [tV,Ae];rfl) ?_
 ·have hwn:win (HL.bools F) 0 (F.length*1)++[HV.bool b]=HL.bools (F++[b]):=by
   rw [Nat.mul_one,dw _ (by simp [HL.bools])];simp [HL.bools]
  have hng:ax (.optr [.int .i64 d.sz,.osl 1 R.length (iO (rI R)),.osl 1 F.length (HL.bools F)]) [2]=.osl 1 F.length (HL.bools F):=rfl
  refine (Jf (L:=fun j=>au j [(165,HV.osl 1 1 [HV.bool b]),(0,HV.optr [HV.int IntKind.i64 0,HV.nils,HV.nils]),
   (1,HV.osl 1 d.nx.length (HL.ints (jm d.nx.length c))),(2,HV.osl 1 d.nx.length (HL.ints (Ik L d.nx.length))),
   (3,HV.osl 1 Q.length (HL.ints (nI Q))),
   (4,HV.optr [HV.int IntKind.i64 d.sz,HV.osl 1 R.length (iO (rI R)),HV.osl 1 F.length (HL.bools F)])]) (fr:=181) (bytes:=1) (off:=0) (n:=F.length) (sz2:=1) (id:=4) (p:=[2]) (w:=.ref 165 [] 1 0 1) (fl:=true) (sz:=1) (us:=[]) (m:=1) (ws:=[HV.bool b]) (cond:=1=1/\0+1*1<=1/\true=true) rfl hng).trans ?_
  simp only [hwn]
  rfl
 refine mD (.pref 4 [] 2) _ rfl rfl (by trivial) rfl aA ?_
 refine Qb (W:=[362,363,8,9]) (R:=[8,362]) (side:=((0=0/\F.length+1=F.length+1)/\True)/\[HV.osl 1 (F.length+1) (HL.bools (F++[b]))].length=1/\0<1/\2+1<=3/\(false=true->bC [HV.osl 1 (F.length+1) (HL.bools (F++[b]))]=true)) .dead [.put 181 .dead,.kill 4 0,.put 4 (.optr [.int .i64 d.sz,.osl 1 R.length (iO (rI R)),HV.osl 1 (F.length+1) (HL.bools (F++[b]))])] rfl rfl rfl ⟨⟨⟨rfl,rfl⟩,trivial⟩,rfl,Nat.zero_lt_one,by omega,fun h=>absurd h (by decide)⟩ rfl rfl aA (by simp only [tV,Ae];rfl) ?_
 refine aaM rfl ?_
 rw [show (F++[b]).length=F.length+1 by simp] at h
 refine Az ?_
 exact bV [1,2,3,4,6,7,8] _ rfl h
theorem YO (d:Dz) (hv:okD d=true):HT Try.prog 98 [.agg (dC d)] (fun r=>∃rows fn,MinOf (bK d) (iW d) d.nx.length d.sz.toNat rows fn/\r=.agg (dC ⟨d.sz,rI rows,fn⟩)):=by
 obtain ⟨h1,h2,h3,h4,h5⟩:=lD hv
 have ok:=vN hv
 refine HT.ofC rfl afg [2] rfl (bF rfl) ?_
 unfold c98
 have hdv:=Zd hv
 have hdc:=OC d hv
 simp only [ay,Nat.reduceAdd,dC] at hdv hdc ⊢
 refine zF ⟨?_⟩
 refine aX aG (zW @fE) (hdv) ?_
 rintro _ rfl
 refine zG ⟨?_⟩
 refine zF ⟨?_⟩
 refine aX aG (zW @fE) (hdc) ?_
 rintro _ ⟨c,m,hcl,rfl⟩
 have hcn:=fun i (hi:i<d.nx.length)=>lI (hcl.lt hi) hcl.le
 refine zG ⟨?_⟩
 refine zF ⟨?_⟩
 rw [<- Pi]
 have hs1:stripL [.int .i64 d.sz,.sl d.nx.length (iT d.nx),.sl d.fn.length (HL.bools d.fn)]=[.int .i64 d.sz,.sl d.nx.length (iT d.nx),.sl d.fn.length (HL.bools d.fn)]:=by simp [stripL,HV.strip,fE,HL.bools_strip]
 refine aP 0 [1,2,3,4,5] (⟨[(1,.ptr (stripL [.int .i64 d.sz,.sl d.nx.length (iT d.nx),.sl d.fn.length (HL.bools d.fn)]) 0),(2,.pref 0 [] 0),(3,.ref 1 [] 1 0 d.nx.length),(4,.ref 2 [] 1 0 d.nx.length),(5,.int .i64 0)],[(0,.optr [.int .i64 0,.nils,.nils]),(1,.osl 1 d.nx.length (HL.ints (jm d.nx.length c))),(2,.osl 1 d.nx.length (HL.ints (qG 0 d.nx.length)))],3⟩:St) rfl ?_
 rw [hs1]
 refine aF [1,2,3,4,5] (fun j:Nat=>j<=d.nx.length) (fun j=>⟨[(1,.ptr [.int .i64 d.sz,.sl d.nx.length (iT d.nx),.sl d.fn.length (HL.bools d.fn)] 0),(2,.pref 0 [] 0),(3,.ref 1 [] 1 0 d.nx.length),(4,.ref 2 [] 1 0 d.nx.length),(5,.int .i64 (j:Nat))],[(0,.optr [.int .i64 0,.nils,.nils]),(1,.osl 1 d.nx.length (HL.ints (jm d.nx.length c))),(2,.osl 1 d.nx.length (HL.ints (qG j d.nx.length)))],3⟩) (fun j=>d.nx.length - j) 0 (dS _) rfl ?_
 intro j hj
 by_cases hjl:j<d.nx.length
 ·have hset:=SS hjl
  refine fP @hset ⟨?_⟩
  exact aV [1,2,3,4,5] (j+1) hjl (by omega) rfl
 ·obtain rfl:j=d.nx.length:=by omega
  rw [Yt]
  have hc0:(HL.ints (jm d.nx.length c)).getD 0 .dead=.int .i64 (c 0):=U7 c (by omega)
  have hc0n:=hcn 0 (by omega)
  have hset0:(HL.ints (Ik [] d.nx.length)).set (c 0) (.int .i64 0)=HL.ints (Ik [c 0] d.nx.length):=Ru (L:=[]) hc0n (by simp)
  refine fP (zA @hc0 @hset0) ⟨?_⟩
  refine dZ 243 [0,1,1] [1,2,3,4,6,7,8] (⟨[(1,.ptr [.int .i64 d.sz,.sl d.nx.length (iT d.nx),.sl d.fn.length (HL.bools d.fn)] 0),(2,.pref 0 [] 0),(3,.ref 1 [] 1 0 d.nx.length),(4,.ref 2 [] 1 0 d.nx.length),(6,.ref 3 [] 1 0 1),(7,.pref 4 [] 0),(8,.int .i64 0)],[(0,.optr [.int .i64 0,.nils,.nils]),(1,.osl 1 d.nx.length (HL.ints (jm d.nx.length c))),(2,.osl 1 d.nx.length (HL.ints (Ik [c 0] d.nx.length))),(3,.osl 1 1 [.int .i64 0]),(4,.optr [.int .i64 d.sz,.osl 1 0 [],.osl 1 0 []])],5⟩:St) rfl rfl ?_
  refine aF [1,2,3,4,6,7,8] (fun q:Nat×List Nat=>q.1<=(aK (aI (bK d) c d.nx.length) d.sz.toNat (c 0) q.1).1.length/\(∀j,j<q.1->j<(aK (aI (bK d) c d.nx.length) d.sz.toNat (c 0) j).1.length)/\q.2.map c=(aK (aI (bK d) c d.nx.length) d.sz.toNat (c 0) q.1).1/\∀p∈q.2,p<d.nx.length)
   (fun q=>⟨[(1,.ptr [.int .i64 d.sz,.sl d.nx.length (iT d.nx),.sl d.fn.length (HL.bools d.fn)] 0),(2,.pref 0 [] 0),(3,.ref 1 [] 1 0 d.nx.length),(4,.ref 2 [] 1 0 d.nx.length),(6,.ref 3 [] 1 0 q.2.length),(7,.pref 4 [] 0),(8,.int .i64 (q.1:Nat))],[(0,.optr [.int .i64 0,.nils,.nils]),(1,.osl 1 d.nx.length (HL.ints (jm d.nx.length c))),(2,.osl 1 d.nx.length (HL.ints (Ik (aK (aI (bK d) c d.nx.length) d.sz.toNat (c 0) q.1).1 d.nx.length))),(3,.osl 1 q.2.length (HL.ints (nI q.2))),(4,.optr [.int .i64 d.sz,.osl 1 (aK (aI (bK d) c d.nx.length) d.sz.toNat (c 0) q.1).2.length (iO (rI (aK (aI (bK d) c d.nx.length) d.sz.toNat (c 0) q.1).2)),.osl 1 (((aK (aI (bK d) c d.nx.length) d.sz.toNat (c 0) q.1).1.take q.1).map (lg d c)).length (HL.bools (((aK (aI (bK d) c d.nx.length) d.sz.toNat (c 0) q.1).1.take q.1).map (lg d c)))])],5⟩)
   (fun q=>d.nx.length - q.1) (0,[0]) ⟨dS _,fun j hj=>absurd hj (Dn j),rfl,fun p hp=>by simp at hp;omega⟩ rfl ?_
  rintro ⟨i,P⟩ ⟨hi,hdn,hPm,hPn⟩
  simp only at hi hdn hPm hPn ⊢
  have hallL:=Ig ok hcl i
  have hndL:=nG (δ:=(aI (bK d) c d.nx.length)) (sz:=d.sz.toNat) (a:=c 0) i
  have hRl:=gG (δ:=(aI (bK d) c d.nx.length)) (sz:=d.sz.toNat) (a:=c 0) i
  have hfewL:=y5 ok hcl i
  have hsucc:aK (aI (bK d) c d.nx.length) d.sz.toNat (c 0) (i+1)=((scan (aI (bK d) c d.nx.length) ((aK (aI (bK d) c d.nx.length) d.sz.toNat (c 0) i).1.getD i default) (aK (aI (bK d) c d.nx.length) d.sz.toNat (c 0) i).1 d.sz.toNat).1,(aK (aI (bK d) c d.nx.length) d.sz.toNat (c 0) i).2++[(scan (aI (bK d) c d.nx.length) ((aK (aI (bK d) c d.nx.length) d.sz.toNat (c 0) i).1.getD i default) (aK (aI (bK d) c d.nx.length) d.sz.toNat (c 0) i).1 d.sz.toNat).2]):=rfl
  have hend:(aK (aI (bK d) c d.nx.length) d.sz.toNat (c 0) i).1.length<=i->Done (aI (bK d) c d.nx.length) d.sz.toNat (c 0) i:=fun h=>⟨by omega,hdn⟩
  have hPl:P.length=(aK (aI (bK d) c d.nx.length) d.sz.toNat (c 0) i).1.length:=by rw [<- hPm,List.length_map]
  by_cases hil:i<P.length
  ·have hdn2:∀j,j<i+1->j<(aK (aI (bK d) c d.nx.length) d.sz.toNat (c 0) j).1.length:=fun j hj=>by
    by_cases e:j=i
    ·subst e;omega
    ·exact hdn j (by omega)
   generalize (aK (aI (bK d) c d.nx.length) d.sz.toNat (c 0) i).1=L at hsucc hi hallL hndL hfewL hPm hPl ⊢
   generalize (aK (aI (bK d) c d.nx.length) d.sz.toNat (c 0) i).2=R at hsucc hRl ⊢
   generalize hfi:(L.take i).map (lg d c)=F
   obtain ⟨p,hp⟩:∃p,P.getD i 0=p:=⟨_,rfl⟩
   have hpn:p<d.nx.length:=hPn p (by rw [<- hp,bf,bn hil];exact iD hil)
   obtain ⟨x,hx⟩:∃x,L.getD i default=x:=⟨_,rfl⟩
   rw [hx] at hsucc
   have hpx:c p=x:=by
    rw [<- hx,<- hp,<- hPm];simp [hil]
   have hrowp:=mO hv hpn
   refine zF ⟨?_⟩
   refine aF [1,2,3,4,6,7,8,9,10] (fun u:Nat×List Nat=>u.1<=d.sz.toNat/\u.2.map c=(scan (aI (bK d) c d.nx.length) x L u.1).1/\(∀y∈u.2,y<d.nx.length)/\∃r,u.2=P++r)
    (fun u=>⟨[(1,.ptr [.int .i64 d.sz,.sl d.nx.length (iT d.nx),.sl d.fn.length (HL.bools d.fn)] 0),(2,.pref 0 [] 0),(3,.ref 1 [] 1 0 d.nx.length),(4,.ref 2 [] 1 0 d.nx.length),(6,.ref 3 [] 1 0 u.2.length),(7,.pref 4 [] 0),(8,.int .i64 (i:Nat)),(9,.ref 5 [] 1 0 (scan (aI (bK d) c d.nx.length) x L u.1).2.length),(10,.int .i64 (u.1:Nat))],[(0,.optr [.int .i64 0,.nils,.nils]),(1,.osl 1 d.nx.length (HL.ints (jm d.nx.length c))),(2,.osl 1 d.nx.length (HL.ints (Ik (scan (aI (bK d) c d.nx.length) x L u.1).1 d.nx.length))),(3,.osl 1 u.2.length (HL.ints (nI u.2))),(4,.optr [.int .i64 d.sz,.osl 1 R.length (iO (rI R)),.osl 1 F.length (HL.bools F)]),(5,.osl 1 (scan (aI (bK d) c d.nx.length) x L u.1).2.length (HL.ints (nI (scan (aI (bK d) c d.nx.length) x L u.1).2)))],6⟩) (fun u=>d.sz.toNat - u.1) (0,P) ⟨dS _,hPm,hPn,[],by simp⟩ rfl ?_
   rintro ⟨s,Q⟩ ⟨hs,hQm,hQn,r,hQP⟩
   simp only at hs hQm hQn hQP ⊢
   have hsl:=kX (δ:=(aI (bK d) c d.nx.length)) (a:=x) (L:=L) s
   have hsn:=nD (δ:=(aI (bK d) c d.nx.length)) (a:=x) hndL s
   have hQl:Q.length=(scan (aI (bK d) c d.nx.length) x L s).1.length:=by rw [<- hQm,List.length_map]
   have hQf:Q.length<=d.nx.length:=by
    rw [hQl]
    exact Af _ _ hsn fun y hy=>by rw [<- hQm] at hy;obtain ⟨z,hz,rfl⟩:=zl020.1 hy;exact hcn z (hQn z hz)
   have hiQ:i<Q.length:=by rw [hQP,dQ];omega
   have hQv:(HL.ints (nI Q)).getD i .dead=.int .i64 (p:Nat):=by
    rw [O1 hiQ,hQP,bf,En hil,<- bf]
    exact congrArg (fun z:Nat=>HV.int .i64 (z:Int)) hp
   have hrow:=yK d.nx hpn
   by_cases hsz:s<d.sz.toNat
   ·have hin1:=fun h=>scan_in (δ:=(aI (bK d) c d.nx.length)) (a:=x) (L:=L) (s:=s) h
    have hnew1:=fun h=>oH (δ:=(aI (bK d) c d.nx.length)) (a:=x) (L:=L) (s:=s) h
    have e3:(HL.ints (d.nx.getD p [])).getD s .dead=.int .i64 ((d.nx.getD p []).getD s 0):=AX (by omega)
    have hnx:(bK d p).getD s 0=((d.nx.getD p []).getD s 0).toNat:=XL (by omega)
    have hy:=hrowp.2 s (by omega)
    have hrl:=hrowp.1
    have hkc:c ((d.nx.getD p []).getD s 0).toNat=(aI (bK d) c d.nx.length) x s:=by rw [<- hpx,wH ok hcl hpn hsz,hnx]
    generalize d.nx.getD p []=rw0 at hrow e3 hy hkc hrl
    generalize rw0.getD s 0=y at e3 hy hkc
    obtain ⟨z,rfl⟩:∃z:Nat,y=z:=⟨y.toNat,by omega⟩
    simp only [Int.toNat_natCast] at hkc
    have hzn:z<d.nx.length:=by omega
    have e4:(HL.ints (jm d.nx.length c)).getD z .dead=.int .i64 (c z):=U7 c hzn
    have hkn:=hcn z hzn
    rw [hkc] at e4 hkn
    generalize (aI (bK d) c d.nx.length) x s=k at hin1 hnew1 hkc e4 hkn
    generalize (scan (aI (bK d) c d.nx.length) x L s).1=M at hin1 hnew1 hQm hQl hsn ⊢
    generalize (scan (aI (bK d) c d.nx.length) x L s).2=row at hin1 hnew1 hsl ⊢
    have e5:=QW (L:=M) hkn
    have hwr:win (HL.ints (nI row)) 0 row.length=HL.ints (nI row):=dw _ (by simp [HL.ints,nI])
    by_cases hin:k∈M
    ·rw [if_pos hin] at e5
     have hap:=yJ row (M.idxOf k)
     refine aU ?_
     refine aU ?_
     refine bg ?_
     refine zQ ⟨?_⟩
     refine fM (by rfl) ?_
     refine fF ?_
     refine aU ?_
     refine fD ?_
     refine aU ?_
     refine bJ aA aA (fun _ _ _=>False) ?_
     refine fP (zA @hQv (zA @hrow (zA @e3 (zA @e4 (zA @e5 (zA @hwr @hap)))))) ⟨?_⟩
     refine aV [1,2,3,4,6,7,8,9,10] (s+1,Q) ⟨hsz,?_,hQn,r,hQP⟩ iQ ?_
     ·rw [hin1 hin];exact hQm
     ·simp only [hin1 hin,dQ,zO];rfl
    ·rw [if_neg hin] at e5
     have hset:=Ru hkn hin
     rw [<- hQl] at hset
     have e6:=QW (L:=M++[k]) hkn
     rw [if_pos (by simp),MW,if_neg hin] at e6
     simp only [List.idxOf_cons_self,Nat.zero_add,<- hQl] at e6
     have hwq:win (HL.ints (nI Q)) 0 Q.length=HL.ints (nI Q):=dw _ (by simp [HL.ints,nI])
     have haq:=yJ Q z
     have hap:=yJ row Q.length
     refine aU ?_
     refine aU ?_
     refine bg ?_
     refine zQ ⟨?_⟩
     refine fM (by rfl) ?_
     refine fF ?_
     refine aU ?_
     refine fD ?_
     refine aU ?_
     refine bJ aA aA (fun _ _ _=>False) ?_
     refine fP (zA @hQv (zA @hrow (zA @e3 (zA @e4 (zA @e5 (zA @e6 (zA @hset (zA @hwr (zA @hap (zA @hwq @haq)))))))))) ⟨?_⟩
     refine aV [1,2,3,4,6,7,8,9,10] (s+1,Q++[z]) ⟨hsz,?_,?_,r++[z],by rw [hQP,tZ]⟩ iQ ?_
     ·rw [hnew1 hin,oW,hQm];simp [hkc]
     ·intro w hw
      rcases zl002.1 hw with hw|hw
      ·exact hQn w hw
      ·rw [zl009.1 hw];exact hzn
     ·simp only [hnew1 hin,dQ,zO,<- hQl];rfl
   ·obtain rfl:s=d.sz.toNat:=by omega
    generalize (scan (aI (bK d) c d.nx.length) x L d.sz.toNat).2=row at hsucc hsl ⊢
    have hpre:=sO (δ:=(aI (bK d) c d.nx.length)) (a:=x) (L:=L) d.sz.toNat
    generalize (scan (aI (bK d) c d.nx.length) x L d.sz.toNat).1=M at hsucc hQm hQl hsn hpre ⊢
    have hap:=G7 (rI R) (nI row) rfl
    have hRw:rI R++[nI row]=rI (R++[row]):=by simp [rI]
    rw [hRw,zH] at hap
    have hwR:win (iO (rI R)) 0 R.length=iO (rI R):=dw _ (by rw [Ed,jf])
    have hRl2:(R++[row]).length=R.length+1:=by simp
    have hfx:iW d p=lg d c x:=by
     unfold lg
     rw [<- hpx]
     obtain ⟨f1,f2⟩:=Dt (c:=c) hpn
     exact (hcl.fin f1 hpn f2).symm
    have hfp:(HL.bools d.fn).getD p .dead=.bool (lg d c x):=by
     have:p<d.fn.length:=by omega
     rw [<- hfx];simp [HL.bools,iW,this]
    have hMtk:(M.take (i+1)).map (lg d c)=F++[lg d c x]:=by
     obtain ⟨rr,hrr⟩:=hpre
     have hLi:i<L.length:=by omega
     rw [hrr,Ic (by omega),rG,bn hLi,oW,hfi]
     rw [bf,bn hLi] at hx
     simp only [fV] at hx
     simp [hx]
    have htL:(L.take i).length=i:=by rw [eu];omega
    have hFl:F.length=i:=by rw [<- hfi,List.length_map,htL]
    have hdsz:((d.sz.toNat:Nat):Int)=d.sz:=by omega
    refine aU ?_
    refine aU ?_
    refine bg ?_
    refine zQ ⟨?_⟩
    refine fO (by rfl) ?_
    refine gJ (by rfl) ?_
    refine aU ?_
    refine bg ?_
    refine zQx (zA @hwR @hap) ⟨?_⟩
    rw [<- hRl2]
    refine bV [1,2,3,4,6,7,8] (⟨[(1,.ptr [.int .i64 d.sz,.sl d.nx.length (iT d.nx),.sl d.fn.length (HL.bools d.fn)] 0),(2,.pref 0 [] 0),(3,.ref 1 [] 1 0 d.nx.length),(4,.ref 2 [] 1 0 d.nx.length),(6,.ref 3 [] 1 0 Q.length),(7,.pref 4 [] 0),(8,.int .i64 (i:Nat))],[(0,.optr [.int .i64 0,.nils,.nils]),(1,.osl 1 d.nx.length (HL.ints (jm d.nx.length c))),(2,.osl 1 d.nx.length (HL.ints (Ik M d.nx.length))),(3,.osl 1 Q.length (HL.ints (nI Q))),(4,.optr [.int .i64 d.sz,.osl 1 (R++[row]).length (iO (rI (R++[row]))),.osl 1 F.length (HL.bools F)])],5⟩:St) rfl ?_
    refine abN d c M Q (R++[row]) F i p (lg d c x) hQv hiQ hfp (by omega) (by omega) ?_
    refine zF ⟨?_⟩
    refine aV [1,2,3,4,6,7,8] (i+1,Q) ?_ iQ ?_
    ·simp only [hsucc]
     exact ⟨by omega,hdn2,hQm,hQn⟩
    ·simp only [hsucc,hMtk,dQ,zO]
     rfl
  ·have hD:=hend (by omega)
   have hLl:=hD.1
   rw [show ((aK (aI (bK d) c d.nx.length) d.sz.toNat (c 0) i).1.take i)=(aK (aI (bK d) c d.nx.length) d.sz.toNat (c 0) i).1 from kC (by omega)]
   generalize hR:(aK (aI (bK d) c d.nx.length) d.sz.toNat (c 0) i).2=R at hRl ⊢
   generalize hL:(aK (aI (bK d) c d.nx.length) d.sz.toNat (c 0) i).1=L at hLl hPl ⊢
   refine aU ?_
   refine aU ?_
   refine bg ?_
   refine zQ ⟨?_⟩
   refine fO (by rfl) ?_
   refine gJ (by rfl) ?_
   refine aP 4 [2,7] (⟨[(2,.pref 0 [] 0),(7,.ptr (stripL [.int .i64 d.sz,.osl 1 R.length (iO (rI R)),.osl 1 (L.map (lg d c)).length (HL.bools (L.map (lg d c)))]) 0)],[(0,.optr [.int .i64 0,.nils,.nils])],1⟩:St) rfl ?_
   have hst:stripL [.int .i64 d.sz,.osl 1 R.length (iO (rI R)),.osl 1 (L.map (lg d c)).length (HL.bools (L.map (lg d c)))]=dC ⟨d.sz,rI R,L.map (lg d c)⟩:=by
    simp [stripL,HV.strip,yG,HL.bools_strip,dC,jf]
   rw [hst]
   simp only [dC]
   refine zF ⟨?_⟩
   refine ae ?_
   exact ⟨_,_,rfl,rfl,R,L.map (lg d c),⟨c,m,i,hcl,hD,hR.symm,by rw [hL];rfl⟩,by simp [bG,jf]⟩
end Go.Proofs.Ytlbdmpjnmfmnfaa
