import Derived.Test.YtlbdmpjnmfmnfaaFvf
import Derived.Test.YtlbdmpjnmfmnfaaFt8
import Derived.Test.YtlbdmpjnmfmnfaaFs2
import Derived.Test.YtlbdmpjnmfmnfaaFt3
import Derived.Test.YtlbdmpjnmfmnfaaHlFi
import Derived.Test.YtlbdmpjnmfmnfaaFsB
set_option linter.unusedSimpArgs false
set_option linter.unusedVariables false
set_option linter.unnecessarySimpa false
set_option maxHeartbeats 32000000
namespace Go.Proofs.Ytlbdmpjnmfmnfaa
open Go.RowKit Go.HL Go.FS
theorem YU {L:Lk} {fr:Nat} {a b r:Int} (h:IntKind.i64.wrap (a - b)=r):ak L fr (.bin .sub (.int .i64 a) (.int .i64 b))=(.int .i64 r,[],IntKind.i64=IntKind.i64):=by subst h;rfl
theorem Xt {K:List HI} [hp:Plain K] {rs:List Nat} {Kp:HV->Prop} {c:HCode} (fs ft:List Bool) (al bl:List A) (N n2:Nat) (D D2:List Int) (F:List Bool) (R Q:List A) (i k:Nat) (j:Int) (hN:D.length=N) (hk:k<Q.length) (hR:R.length<=100000000) (ht:0<=(Q.getD k default).t/\(Q.getD k default).t<N) (hD:D.getD (Q.getD k default).t.toNat 0=j+1) (hj:0<=j/\j<=100000000)
  (h:hx Try.prog (.c c::K) (finish rs Kp) ⟨[(2,.ptr [.sl fs.length (HL.bools fs),.sl al.length (recs aC al)] 0),(3,.ptr [.sl ft.length (HL.bools ft),.sl bl.length (recs aC bl)] 0),(4,.pref 0 [] 0),(6,.int .i64 ft.length),(7,.sl fs.length (bF (aG (·.f) fs.length al))),(8,.sl ft.length (bF (aG (·.f) ft.length bl))),(9,.ref 1 [] 1 0 N),(10,.ref 2 [] 1 0 n2),(11,.pref 3 [] 0),(12,.int .i64 i),(15,.sl Q.length (recs aC Q)),(16,.int .i64 k)],[(0,.optr [.nils,.nils]),(1,.osl 1 N (HL.ints D)),(2,.osl 1 n2 (HL.ints D2)),(3,.optr [.osl 1 F.length (HL.bools F),.osl 4 (R++[(⟨i,(Q.getD k default).i,(Q.getD k default).o,j⟩:A)]).length (recs aC (R++[⟨i,(Q.getD k default).i,(Q.getD k default).o,j⟩]))])],4⟩) :
  hx Try.prog (.c Xu::.b 3::.c c::K) (finish rs Kp) ⟨[(2,.ptr [.sl fs.length (HL.bools fs),.sl al.length (recs aC al)] 0),(3,.ptr [.sl ft.length (HL.bools ft),.sl bl.length (recs aC bl)] 0),(4,.pref 0 [] 0),(6,.int .i64 ft.length),(7,.sl fs.length (bF (aG (·.f) fs.length al))),(8,.sl ft.length (bF (aG (·.f) ft.length bl))),(9,.ref 1 [] 1 0 N),(10,.ref 2 [] 1 0 n2),(11,.pref 3 [] 0),(12,.int .i64 i),(15,.sl Q.length (recs aC Q)),(16,.int .i64 k)],[(0,.optr [.nils,.nils]),(1,.osl 1 N (HL.ints D)),(2,.osl 1 n2 (HL.ints D2)),(3,.optr [.osl 1 F.length (HL.bools F),.osl 4 R.length (recs aC R)])],4⟩:=by
 have g0:∀x,x<4->(recs aC Q).getD (k*4+x) .dead=(aC (Q.getD k default)).getD x .dead:=fun x hx=>oZ aR Q hk hx
 have g1:(recs aC Q).getD (0+k*4+1) .dead=.int .i64 (Q.getD k default).i:=by rw [Nat.zero_add];exact g0 1 (by omega)
 have hlen:(recs aC Q).length=Q.length*4:=yj Q
 have hDl:(HL.ints D).length=N:=by simp [HL.ints,hN]
 have hDg:(HL.ints D).getD (Q.getD k default).t.toNat .dead=.int .i64 (j+1):=by
  have:(HL.ints D).getD (Q.getD k default).t.toNat .dead=.int .i64 (D.getD (Q.getD k default).t.toNat 0):=by
   have h1:(Q.getD k default).t.toNat<D.length:=by omega
   exact HL.ints_get D h1
  rw [this,hD]
 generalize hA:Q.getD k default=a at *
 have o1:=g0 1 (by omega)
 have o2:=g0 2 (by omega)
 have o3:=g0 3 (by omega)
 unfold Xu
 refine yN ah ?_
 refine dH (.pref 3 [] 1) _ rfl rfl (by trivial) rfl ah ?_
 refine dH (.ref 3 [1] 4 0 R.length) _ rfl rfl (aZ rfl) rfl ah ?_
 refine dH (.int .i64 i) _ rfl rfl (by trivial) rfl ah ?_
 refine dH (.sl Q.length (recs aC Q)) _ rfl rfl (by trivial) rfl ah ?_
 refine dH (.int .i64 k) _ rfl rfl (by trivial) rfl ah ?_
 refine dH (side:=0<=(k:Int)/\(k:Int)<Q.length) (.ptr (recs aC Q) (k*4)) _ rfl rfl ⟨by omega,by omega⟩ rfl ah ?_
 refine dH (.ptr (recs aC Q) (k*4+1)) _ rfl rfl (by trivial) rfl ah ?_
 refine dH (side:=k*4+1<(recs aC Q).length) (.int .i64 a.i) _ rfl ?_ (by omega) rfl ah ?_
 ·show ((recs aC Q).getD (k*4+1) .dead,[],k*4+1<(recs aC Q).length)=_
  rw [o1];rfl
 refine dH (.sl Q.length (recs aC Q)) _ rfl rfl (by trivial) rfl ah ?_
 refine dH (.int .i64 k) _ rfl rfl (by trivial) rfl ah ?_
 refine dH (side:=0<=(k:Int)/\(k:Int)<Q.length) (.ptr (recs aC Q) (k*4)) _ rfl rfl ⟨by omega,by omega⟩ rfl ah ?_
 refine dH (.ptr (recs aC Q) (k*4+2)) _ rfl rfl (by trivial) rfl ah ?_
 refine dH (side:=k*4+2<(recs aC Q).length) (.int .i64 a.o) _ rfl ?_ (by omega) rfl ah ?_
 ·show ((recs aC Q).getD (k*4+2) .dead,[],k*4+2<(recs aC Q).length)=_
  rw [o2];rfl
 refine dH (.ref 1 [] 1 0 N) _ rfl rfl (by trivial) rfl ah ?_
 refine dH (.sl Q.length (recs aC Q)) _ rfl rfl (by trivial) rfl ah ?_
 refine dH (.int .i64 k) _ rfl rfl (by trivial) rfl ah ?_
 refine dH (side:=0<=(k:Int)/\(k:Int)<Q.length) (.ptr (recs aC Q) (k*4)) _ rfl rfl ⟨by omega,by omega⟩ rfl ah ?_
 refine dH (.ptr (recs aC Q) (k*4+3)) _ rfl rfl (by trivial) rfl ah ?_
 refine dH (side:=k*4+3<(recs aC Q).length) (.int .i64 a.t) _ rfl ?_ (by omega) rfl ah ?_
 ·show ((recs aC Q).getD (k*4+3) .dead,[],k*4+3<(recs aC Q).length)=_
  rw [o3];rfl
 refine dH (side:=0<=a.t/\a.t<N/\1=1) (.pref 1 [] (0+a.t.toNat*1)) _ rfl rfl ⟨by omega,by omega,rfl⟩ rfl ah ?_
 refine dH (side:=0+a.t.toNat*1<(HL.ints D).length) (.int .i64 (j+1)) _ rfl ?_ (by omega) rfl ah ?_
 ·show (HL.look 1 [] (0+a.t.toNat*1) ((HL.ints D).getD (0+a.t.toNat*1) .dead),[],0+a.t.toNat*1<(HL.ints D).length)=_
  rw [Nat.zero_add,Nat.mul_one,hDg];rfl
 refine dH (side:=IntKind.i64=IntKind.i64) (.int .i64 j) _ rfl ?_ rfl rfl ah ?_
 ·exact YU (a:=j+1) (b:=1) (by rw [IntWalk.i64_in _ (by omega)];omega)
 refine dH (.agg [.int .i64 i,.int .i64 a.i,.int .i64 a.o,.int .i64 j]) _ rfl rfl (by simp [pJ,setFrom,cellsOf,qF,ev,ax]) rfl ah ?_
 refine xK (.ref 372 [] 4 0 1) [.put 372 (.osl 4 1 [.int .i64 i,.int .i64 a.i,.int .i64 a.o,.int .i64 j])] rfl rfl rfl zV rfl rfl ah gY ?_
 refine xK (side:=(4=4/\0+1*4<=4/\true=true)/\(R.length+1)*32<=140737488355328/\R.length+1<=maxLen/\4=4/\0+R.length*4<=(recs aC R).length) (.ref 388 [] 4 0 (R.length+1)) [.put 3 (.optr [.osl 1 F.length (HL.bools F),.dead]),.put 388 (.osl 4 (R.length+1) (recs aC (R++[⟨i,a.i,a.o,j⟩])))] rfl rfl ?_ ⟨⟨rfl,by omega,rfl⟩,by omega,by unfold maxLen;omega,rfl,by rw [yj];omega⟩ rfl rfl ah gY ?_
 ·have hw:win (recs aC R) 0 (R.length*4)++[HV.int .i64 i,.int .i64 a.i,.int .i64 a.o,.int .i64 j]=recs aC (R++[⟨i,a.i,a.o,j⟩]):=by
   rw [uV _ rfl,zJ]
  show (HV.ref 388 [] 4 0 (R.length+1),[Upd.put 3 (.optr [.osl 1 F.length (HL.bools F),.dead]),.put 388 (.osl 4 (R.length+1) (win (recs aC R) 0 (R.length*4)++[HV.int .i64 i,.int .i64 a.i,.int .i64 a.o,.int .i64 j]))],(4=4/\0+1*4<=4/\true=true)/\(R.length+1)*32<=140737488355328/\R.length+1<=maxLen/\4=4/\0+R.length*4<=(recs aC R).length)=_
  rw [hw]
 refine dH (.pref 3 [] 1) _ rfl rfl (by trivial) rfl ah ?_
 refine xK (side:=((0=0/\R.length+1=R.length+1)/\True)/\[HV.osl 4 (R.length+1) (recs aC (R++[⟨i,a.i,a.o,j⟩]))].length=1/\0<1/\1+1<=2/\(false=true->aV [HV.osl 4 (R.length+1) (recs aC (R++[⟨i,a.i,a.o,j⟩]))]=true)) .dead [.put 388 .dead,.kill 3 0,.put 3 (.optr [.osl 1 F.length (HL.bools F),.osl 4 (R.length+1) (recs aC (R++[⟨i,a.i,a.o,j⟩]))])] rfl rfl rfl ⟨⟨⟨rfl,rfl⟩,trivial⟩,rfl,rO,bg _,fun h=>absurd h (by decide)⟩ rfl rfl ah gY ?_
 refine MW rfl ?_
 refine BP ?_
 simp only [bD,jQ] at h
 exact aY [2,3,4,6,7,8,9,10,11,12,15,16] _ rfl h
theorem Uo {i:Int} {st:CS} {S:List Stp} {k:Nat} (h:k<S.length):fG i st (S.take (k+1))=add1 i (fG i st (S.take k)) (S.getD k default):=by
 have:S.take (k+1)=S.take k++[S.getD k default]:=by rw [vV];simp [h]
 rw [this,yf,Dh]
theorem SN (R:List A):stripL (win (recs aC R) 0 (R.length*4))=recs aC R:=by rw [uV _ rfl,gQ]
theorem Zu (fs ft:List Bool) (al bl:List A) (ho1:okF fs al=true) (ho2:okF ft bl=true) (N:Nat) (hN:fs.length*ft.length=N) :
  hx Try.prog [.c (.loop XX),.b 0,.c Xi] (finish [4,5] (KC [.c 4 true 2,.t 5] fun r=>r=.tup [.agg (dE (pK fs ft al bl).1.1 (pK fs ft al bl).1.2),.int .i64 (pK fs ft al bl).2])) ⟨[(2,.ptr [.sl fs.length (HL.bools fs),.sl al.length (recs aC al)] 0),(3,.ptr [.sl ft.length (HL.bools ft),.sl bl.length (recs aC bl)] 0),(4,.pref 0 [] 0),(6,.int .i64 ft.length),(7,.sl fs.length (bF (aG (·.f) fs.length al))),(8,.sl ft.length (bF (aG (·.f) ft.length bl))),(9,.ref 1 [] 1 0 N),(10,.ref 2 [] 1 0 [((0,0):Nd)].length),(11,.pref 3 [] 0),(12,.int .i64 0)],[(0,.optr [.nils,.nils]),(1,.osl 1 N (HL.ints (oP ft.length N [((0,0):Nd)]))),(2,.osl 1 [((0,0):Nd)].length (HL.ints ([((0,0):Nd)].map (lL ft.length)))),(3,.optr [.osl 1 ([]:List Bool).length (HL.bools ([]:List Bool)),.osl 4 ([]:List A).length (recs aC ([]:List A))])],4⟩:=by
 obtain ⟨a1,a2,a3⟩:=bY ho1
 obtain ⟨b1,b2,b3⟩:=bY ho2
 have hl1:=dD (·.f) fs.length al
 have hl2:=dD (·.f) ft.length bl
 have hNb:N<=4194304:=by rw [<- hN];exact jc (tK a2 b2) (by decide)
 have hcm:pK fs ft al bl=match FO al bl with|some st=>((gB fs ft st.1,st.2),0)|none=>(([],[]),4):=by unfold pK;rw [if_pos ⟨ho1,ho2⟩];cases FO al bl<;>rfl
 refine aI [2,3,4,6,7,8,9,10,11,12] (fun s:Nat×CS=>CI fs ft al bl s.1 s.2) (fun s=>⟨[(2,.ptr [.sl fs.length (HL.bools fs),.sl al.length (recs aC al)] 0),(3,.ptr [.sl ft.length (HL.bools ft),.sl bl.length (recs aC bl)] 0),(4,.pref 0 [] 0),(6,.int .i64 ft.length),(7,.sl fs.length (bF (aG (·.f) fs.length al))),(8,.sl ft.length (bF (aG (·.f) ft.length bl))),(9,.ref 1 [] 1 0 N),(10,.ref 2 [] 1 0 s.2.1.length),(11,.pref 3 [] 0),(12,.int .i64 s.1)],[(0,.optr [.nils,.nils]),(1,.osl 1 N (HL.ints (oP ft.length N s.2.1))),(2,.osl 1 s.2.1.length (HL.ints (s.2.1.map (lL ft.length)))),(3,.optr [.osl 1 (gB fs ft (s.2.1.take s.1)).length (HL.bools (gB fs ft (s.2.1.take s.1))),.osl 4 s.2.2.length (recs aC s.2.2)])],4⟩) (fun s=>2100 - s.1) (0,([(0,0)],[])) (.start a1 b1) rfl ?_
 rintro ⟨i,st⟩ hI
 simp only at hI ⊢
 have q1:=hI.le
 have q2:=hI.l1
 have q3:=hI.l2
 have hFl:(gB fs ft (st.1.take i)).length=i:=by simp only [gB,List.length_map,dS];omega
 have hml:(st.1.map (lL ft.length)).length=st.1.length:=List.length_map ..
 by_cases hi:i<st.1.length
 ·have hv:=hI.pair hi
  have hft:=Dy (fs:=fs) (ft:=ft) hi
  have hr1:=wU (l:=al) hv.1 hv.2.1
  have hr2:=wU (l:=bl) hv.2.2.1 hv.2.2.2
  have hc1:=hI.step hi
  have hnx:=hI.next ho1 ho2 hi
  have hin:=hI.in_
  have hrd:IB al bl i st=fG i st (iL al bl (st.1.getD i default)):=rfl
  generalize hFe:gB fs ft (st.1.take i)=F at hFl hft ⊢
  have hle:(st.1.map (lL ft.length)).getD i 0=lL ft.length (st.1.getD i default):=by simp [hi]
  obtain ⟨v,hve⟩:∃v,st.1.getD i default=v:=⟨_,rfl⟩
  rw [hve] at hv hft hr1 hr2 hle hrd
  have hsi:=fun x hx=>Au (al:=al) (bl:=bl) (n:=fs.length) (m:=ft.length) (fun a ha=>by have:=cu ho1 ha;omega) (fun b hb=>by have:=cu ho2 hb;omega) hv x hx
  obtain ⟨hd1,hd2⟩:=ZT hv
  obtain ⟨c1,c2,c3,c4,c5⟩:=Gt hv a2 b2
  have hst:=UC v ft.length fs.length (outA v.1 al) (outA v.2 bl) hv a2 b2 (jc (List.length_filter_le _ _) a3) (jc (List.length_filter_le _ _) b3) (fun a ha=>by have:=cu ho1 (zl042.1 ha).1;omega) (fun a ha=>by have:=cu ho2 (zl042.1 ha).1;omega)
  obtain ⟨v1,v2,v3,v4⟩:=hv
  have hSl:(iL al bl v).length<=8192+8192*8193:=by
   have o1:(outA v.1 al).length<=8192:=jc (List.length_filter_le _ _) a3
   have o2:(outA v.2 bl).length<=8192:=jc (List.length_filter_le _ _) b3
   have h1:=Ur al bl v
   unfold pN at h1
   have h2:=tK o1 o2
   omega
  have hSS:LZ (outA v.1 al) (outA v.2 bl) v=iL al bl v:=rfl
  rw [hSS] at hst
  generalize iL al bl v=S at hst hSl hrd hsi
  refine eH (zA @hle (zA @hd1 @hd2)) ⟨?_⟩
  refine aY [2,3,4,6,7,8,9,10,11,12,13,14] ⟨[(2,.ptr [.sl fs.length (HL.bools fs),.sl al.length (recs aC al)] 0),(3,.ptr [.sl ft.length (HL.bools ft),.sl bl.length (recs aC bl)] 0),(4,.pref 0 [] 0),(6,.int .i64 ft.length),(7,.sl fs.length (bF (aG (·.f) fs.length al))),(8,.sl ft.length (bF (aG (·.f) ft.length bl))),(9,.ref 1 [] 1 0 N),(10,.ref 2 [] 1 0 st.1.length),(11,.pref 3 [] 0),(12,.int .i64 i),(13,.int .i64 v.1),(14,.int .i64 v.2)],[(0,.optr [.nils,.nils]),(1,.osl 1 N (HL.ints (oP ft.length N st.1))),(2,.osl 1 st.1.length (HL.ints (st.1.map (lL ft.length)))),(3,.optr [.osl 1 F.length (HL.bools F),.osl 4 st.2.length (recs aC st.2)])],4⟩ rfl ?_
  have hF1:(F++[fs.getD v.1.toNat false&&ft.getD v.2.toNat false]).length=i+1:=by simp [hFl]
  apply LU (P:=Try.prog) (fun _:Unit=>(⟨[(2,.ptr [.sl fs.length (HL.bools fs),.sl al.length (recs aC al)] 0),(3,.ptr [.sl ft.length (HL.bools ft),.sl bl.length (recs aC bl)] 0),(4,.pref 0 [] 0),(6,.int .i64 ft.length),(7,.sl fs.length (bF (aG (·.f) fs.length al))),(8,.sl ft.length (bF (aG (·.f) ft.length bl))),(9,.ref 1 [] 1 0 N),(10,.ref 2 [] 1 0 st.1.length),(11,.pref 3 [] 0),(12,.int .i64 i),(13,.int .i64 v.1),(14,.int .i64 v.2)],[(0,.optr [.nils,.nils]),(1,.osl 1 N (HL.ints (oP ft.length N st.1))),(2,.osl 1 st.1.length (HL.ints (st.1.map (lL ft.length)))),(3,.optr [.osl 1 (F++[fs.getD v.1.toNat false&&ft.getD v.2.toNat false]).length (HL.bools (F++[fs.getD v.1.toNat false&&ft.getD v.2.toNat false])),.osl 4 st.2.length (recs aC st.2)])],4⟩:St)) (fun _=>True)
  ·intro key
   refine iW [2,3,13,14] [11] ah ah (fun _ _ _=>False) (by simp [ax,HV.deep,aO,bJ,bP]) (by simp [ax,HV.deep,aO]) ?_
   cases c1:fs.getD v.1.toNat false with
   | false =>
    rw [c1] at key hF1
    refine Na @c1 ⟨?_⟩
    exact aY [2,3,4,6,7,8,9,10,11,12,13,14] _ (by rw [bD];rfl) (key () trivial)
   | true =>
    rw [c1] at key hF1
    cases c2:ft.getD v.2.toNat false with
    | false =>
     rw [c2] at key hF1
     refine Na (zA @c1 @c2) ⟨?_⟩
     exact aY [2,3,4,6,7,8,9,10,11,12,13,14] _ (by rw [bD];rfl) (key () trivial)
    | true =>
     rw [c2] at key hF1
     refine Na (zA @c1 @c2) ⟨?_⟩
     exact aY [2,3,4,6,7,8,9,10,11,12,13,14] _ (by rw [bD];rfl) (key () trivial)
  rintro - -
  rw [<- hft]
  rw [<- hft] at hF1
  generalize hGe:gB fs ft (st.1.take (i+1))=G at hF1 ⊢
  refine aH ?_
  refine bG ah ah (fun _ _ r=>r=.osl 4 (S.map (encS ft.length)).length (recs aC (S.map (encS ft.length)))) ?_
  refine eH (zA @hr1 @hr2) ⟨?_⟩
  refine bI ay aK hst ⟨_,rfl,by simp [HV.deep,bP]⟩ ?_
  rintro _ rfl -
  refine ⟨(by simp only [aJ,jb,HV.refFree,dm,HV.noRd,HL.ints_noRd,HL.bools_noRd,dR,mZ,lX,l9,kE,Bool.and_true,jf,Bool.and_self,mQ,beq_self_eq_true,List.cons_append,List.nil_append]),_,_,_,_,_,zT,(by decide),lH,?_⟩
  refine zQ ⟨?_⟩
  refine az 180 [2,3,4,6,7,8,9,10,11,12,15] ⟨[(2,.ptr [.sl fs.length (HL.bools fs),.sl al.length (recs aC al)] 0),(3,.ptr [.sl ft.length (HL.bools ft),.sl bl.length (recs aC bl)] 0),(4,.pref 0 [] 0),(6,.int .i64 ft.length),(7,.sl fs.length (bF (aG (·.f) fs.length al))),(8,.sl ft.length (bF (aG (·.f) ft.length bl))),(9,.ref 1 [] 1 0 N),(10,.ref 2 [] 1 0 st.1.length),(11,.pref 3 [] 0),(12,.int .i64 i),(15,.sl (S.map (encS ft.length)).length (stripL (win (recs aC (S.map (encS ft.length))) 0 ((S.map (encS ft.length)).length*4))))],[(0,.optr [.nils,.nils]),(1,.osl 1 N (HL.ints (oP ft.length N st.1))),(2,.osl 1 st.1.length (HL.ints (st.1.map (lL ft.length)))),(3,.optr [.osl 1 G.length (HL.bools G),.osl 4 st.2.length (recs aC st.2)])],4⟩ rfl ?_
  rw [SN]
  have hNt:∀x∈S,0<=lL ft.length x.2.2/\lL ft.length x.2.2<N:=fun x hx=>by obtain ⟨h1,h2,_⟩:=Gt (hsi x hx) a2 b2;rw [hN] at h2;exact ⟨h1,h2⟩
  have hQl:(S.map (encS ft.length)).length=S.length:=List.length_map ..
  refine zF ⟨?_⟩
  refine aI [2,3,4,6,7,8,9,10,11,12,15,16] (fun k:Nat=>k<=S.length) (fun k=>⟨[(2,.ptr [.sl fs.length (HL.bools fs),.sl al.length (recs aC al)] 0),(3,.ptr [.sl ft.length (HL.bools ft),.sl bl.length (recs aC bl)] 0),(4,.pref 0 [] 0),(6,.int .i64 ft.length),(7,.sl fs.length (bF (aG (·.f) fs.length al))),(8,.sl ft.length (bF (aG (·.f) ft.length bl))),(9,.ref 1 [] 1 0 N),(10,.ref 2 [] 1 0 (fG i st (S.take k)).1.length),(11,.pref 3 [] 0),(12,.int .i64 i),(15,.sl (S.map (encS ft.length)).length (recs aC (S.map (encS ft.length)))),(16,.int .i64 k)],[(0,.optr [.nils,.nils]),(1,.osl 1 N (HL.ints (oP ft.length N (fG i st (S.take k)).1))),(2,.osl 1 (fG i st (S.take k)).1.length (HL.ints ((fG i st (S.take k)).1.map (lL ft.length)))),(3,.optr [.osl 1 G.length (HL.bools G),.osl 4 (fG i st (S.take k)).2.length (recs aC (fG i st (S.take k)).2)])],4⟩) (fun k=>S.length - k) 0 (by omega) (by rw [List.take_zero,YV];rfl) ?_
  intro k hk
  have hal:=qZ (i:=i) (l:=S.take k) (st:=st)
  have htl:(S.take k).length<=8192+8192*8193:=by rw [dS];omega
  by_cases hkl:k<S.length
  ·have hxm:S.getD k default∈S:=by rw [bH,bM hkl];exact gy hkl
   have hxt:=hNt _ hxm
   have hxi:=hsi _ hxm
   have hQk:(S.map (encS ft.length)).getD k default=encS ft.length (S.getD k default):=by simp [hkl]
   have hQt:((S.map (encS ft.length)).getD k default).t=lL ft.length (S.getD k default).2.2:=by rw [hQk];rfl
   have hnext:=Uo (i:=i) (st:=st) hkl
   generalize hsk:fG i st (S.take k)=sk at hal hnext ⊢
   obtain ⟨l,R⟩:=sk
   simp only at hal ⊢
   generalize S.getD k default=x at hxm hxt hxi hQk hQt hnext
   have hng:=FS.num_get (m:=fs.length) (n:=ft.length) (l:=l) hxi
   rw [hN] at hng
   have hml2:(l.map (lL ft.length)).length=l.length:=List.length_map ..
   have hnl:(oP ft.length N l).length=N:=Nw
   by_cases hm:x.2.2∈l
   ·rw [if_pos hm] at hng
    have hix:=KE hm
    have hins:ins x.2.2 l=l:=by unfold ins;rw [if_pos hm]
    refine eH (zA @hQt @hng) ⟨?_⟩
    refine aY [2,3,4,6,7,8,9,10,11,12,15,16] ⟨[(2,.ptr [.sl fs.length (HL.bools fs),.sl al.length (recs aC al)] 0),(3,.ptr [.sl ft.length (HL.bools ft),.sl bl.length (recs aC bl)] 0),(4,.pref 0 [] 0),(6,.int .i64 ft.length),(7,.sl fs.length (bF (aG (·.f) fs.length al))),(8,.sl ft.length (bF (aG (·.f) ft.length bl))),(9,.ref 1 [] 1 0 N),(10,.ref 2 [] 1 0 l.length),(11,.pref 3 [] 0),(12,.int .i64 i),(15,.sl (S.map (encS ft.length)).length (recs aC (S.map (encS ft.length)))),(16,.int .i64 k)],[(0,.optr [.nils,.nils]),(1,.osl 1 N (HL.ints (oP ft.length N l))),(2,.osl 1 l.length (HL.ints (l.map (lL ft.length)))),(3,.optr [.osl 1 G.length (HL.bools G),.osl 4 R.length (recs aC R)])],4⟩ rfl ?_
    refine Xt fs ft al bl N l.length (oP ft.length N l) (l.map (lL ft.length)) G R (S.map (encS ft.length)) i k (Aq l x.2.2:Nat) hnl (by omega) (by omega) (by rw [hQt];omega) (by rw [hQt,hng]) (by omega) ?_
    have e:R++[(⟨i,((S.map (encS ft.length)).getD k default).i,((S.map (encS ft.length)).getD k default).o,(Aq l x.2.2:Nat)⟩:A)]=(fG i st (S.take (k+1))).2:=by rw [hnext,hQk];unfold add1;simp only [hins];rfl
    have e2:l=(fG i st (S.take (k+1))).1:=by rw [hnext];unfold add1;simp only [hins]
    rw [e]
    refine zF ⟨?_⟩
    refine aP [2,3,4,6,7,8,9,10,11,12,15,16] (k+1) hkl (by omega) ?_
    rw [<- e2]
    rfl
   ·rw [if_neg hm] at hng
    have hns:=FS.num_set (m:=fs.length) (n:=ft.length) (l:=l) hxi hm
    rw [hN] at hns
    have hins:ins x.2.2 l=l++[x.2.2]:=by unfold ins;rw [if_neg hm]
    have hma:l.map (lL ft.length)++[lL ft.length x.2.2]=(l++[x.2.2]).map (lL ft.length):=by simp
    have hns2:(oP ft.length N l).set (lL ft.length x.2.2).toNat ((l.length+1:Nat):Int)=oP ft.length N (l++[x.2.2]):=hns
    refine eH (zA @hQt @hng) ⟨?_⟩
    simp only [hns,hns2,hma]
    have hle2:l.length+1=(l++[x.2.2]).length:=by simp
    refine aY [2,3,4,6,7,8,9,10,11,12,15,16] ⟨[(2,.ptr [.sl fs.length (HL.bools fs),.sl al.length (recs aC al)] 0),(3,.ptr [.sl ft.length (HL.bools ft),.sl bl.length (recs aC bl)] 0),(4,.pref 0 [] 0),(6,.int .i64 ft.length),(7,.sl fs.length (bF (aG (·.f) fs.length al))),(8,.sl ft.length (bF (aG (·.f) ft.length bl))),(9,.ref 1 [] 1 0 N),(10,.ref 2 [] 1 0 (l++[x.2.2]).length),(11,.pref 3 [] 0),(12,.int .i64 i),(15,.sl (S.map (encS ft.length)).length (recs aC (S.map (encS ft.length)))),(16,.int .i64 k)],[(0,.optr [.nils,.nils]),(1,.osl 1 N (HL.ints (oP ft.length N (l++[x.2.2])))),(2,.osl 1 (l++[x.2.2]).length (HL.ints ((l++[x.2.2]).map (lL ft.length)))),(3,.optr [.osl 1 G.length (HL.bools G),.osl 4 R.length (recs aC R)])],4⟩ (by rw [<- hle2];rfl) ?_
    have hng2:=FS.num_get (m:=fs.length) (n:=ft.length) (l:=l++[x.2.2]) hxi
    rw [hN,if_pos (by simp)] at hng2
    have hix:Aq (l++[x.2.2]) x.2.2=l.length:=LH hm
    refine Xt fs ft al bl N (l++[x.2.2]).length (oP ft.length N (l++[x.2.2])) ((l++[x.2.2]).map (lL ft.length)) G R (S.map (encS ft.length)) i k (Aq (l++[x.2.2]) x.2.2:Nat) Nw (by omega) (by omega) (by rw [hQt];omega) (by rw [hQt,hng2]) (by omega) ?_
    have e:R++[(⟨i,((S.map (encS ft.length)).getD k default).i,((S.map (encS ft.length)).getD k default).o,(Aq (l++[x.2.2]) x.2.2:Nat)⟩:A)]=(fG i st (S.take (k+1))).2:=by rw [hnext,hQk];unfold add1;simp only [hins];rfl
    have e2:l++[x.2.2]=(fG i st (S.take (k+1))).1:=by rw [hnext];unfold add1;simp only [hins]
    rw [e]
    refine zF ⟨?_⟩
    refine aP [2,3,4,6,7,8,9,10,11,12,15,16] (k+1) hkl (by omega) ?_
    rw [<- e2]
    rfl
  ·obtain rfl:k=S.length:=by omega
   rw [fK] at hal ⊢
   rw [<- hrd] at hal ⊢
   by_cases hw:within (IB al bl i st)=true
   ·have hnx2:=hnx hw
    have hw2:=hw
    simp only [within,decide_eq_true_eq] at hw2
    rw [<- hGe]
    generalize hst2:IB al bl i st=st2 at hnx2 hw2 ⊢
    have hpre:gB fs ft (st.1.take (i+1))=gB fs ft (st2.1.take (i+1)):=by
     obtain ⟨y,hy⟩:=tY (i:=i) (l:=S) (st:=st)
     rw [<- hrd,hst2] at hy
     rw [hy,PR (by omega)]
    rw [hpre]
    refine zF ⟨?_⟩
    exact aP [2,3,4,6,7,8,9,10,11,12] (i+1,st2) hnx2 dL rfl
   ·rw [if_neg hw] at hc1
    have hcn:pK fs ft al bl=(([],[]),4):=by rw [hcm,hc1]
    have hw2:¬ ((IB al bl i st).1.length<=2048/\(IB al bl i st).2.length<=8192):=by simpa [within] using hw
    generalize IB al bl i st=st2 at hw2 hal ⊢
    by_cases hs1:st2.1.length<=2048
    ·have hs2:¬ st2.2.length<=8192:=fun h=>hw2 ⟨hs1,h⟩
     refine zF ⟨?_⟩
     refine aX 0 [1,4] [4,5] (⟨[(4,.pref 0 [] 0),(5,.int .i64 4)],[(0,.optr [.osl 1 0 [],.osl 4 0 []])],1⟩:St) rfl rfl ?_
     refine bQ 0 [4,5] ⟨[(4,.pref 0 [] 0),(5,.int .i64 4)],[(0,.optr [.sl 0 [],.sl 0 []])],1⟩ rfl rfl ?_
     refine ae ?_
     exact ⟨_,_,rfl,rfl,by rw [hcn];rfl⟩
    ·refine zF ⟨?_⟩
     refine aX 0 [1,4] [4,5] (⟨[(4,.pref 0 [] 0),(5,.int .i64 4)],[(0,.optr [.osl 1 0 [],.osl 4 0 []])],1⟩:St) rfl rfl ?_
     refine bQ 0 [4,5] ⟨[(4,.pref 0 [] 0),(5,.int .i64 4)],[(0,.optr [.sl 0 [],.sl 0 []])],1⟩ rfl rfl ?_
     refine ae ?_
     exact ⟨_,_,rfl,rfl,by rw [hcn];rfl⟩
 ·obtain rfl:i=st.1.length:=by omega
  have hcd:=hI.done hi
  have hcn:pK fs ft al bl=((gB fs ft st.1,st.2),0):=by rw [hcm,hcd]
  rw [fK] at hFl ⊢
  refine aH ?_
  refine aH ?_
  refine au ?_
  refine zQ ⟨?_⟩
  refine bu (by rfl) ?_
  refine iY (by rfl) ?_
  refine az 3 [4,11] ⟨[(4,.pref 0 [] 0),(11,.ptr (stripL [.osl 1 (gB fs ft st.1).length (HL.bools (gB fs ft st.1)),.osl 4 st.2.length (recs aC st.2)]) 0)],[(0,.optr [.nils,.nils])],1⟩ rfl ?_
  rw [fD]
  refine zF ⟨?_⟩
  refine ae ?_
  exact ⟨_,_,rfl,rfl,by rw [hcn];rfl⟩
theorem NZ (fs ft:List Bool) (al bl:List A) (hfs:fs.length<=1000000000) (hal:al.length<=1000000000) (hft:ft.length<=1000000000) (hbl:bl.length<=1000000000):HT Try.prog 35 [.agg (dE fs al),.agg (dE ft bl)] (fun r=>r=.tup [.agg (dE (pK fs ft al bl).1.1 (pK fs ft al bl).1.2),.int .i64 (pK fs ft al bl).2]):=by
 refine HT.ofC rfl agj [4,5] rfl (aZ rfl) ?_
 unfold c35
 have v1:=lK fs al (by omega) (by omega)
 have v2:=lK ft bl (by omega) (by omega)
 have r1:=FQ fs al
 have r2:=FQ ft bl
 simp only [aA,Nat.reduceAdd]
 simp only [dE,fB] at v1 v2 r1 r2 ⊢
 by_cases ho1:okF fs al=true
 ·rw [ho1] at v1
  by_cases ho2:okF ft bl=true
  ·rw [ho2] at v2
   obtain ⟨a1,a2,a3⟩:=bY ho1
   obtain ⟨b1,b2,b3⟩:=bY ho2
   obtain ⟨N,hN⟩:∃N,fs.length*ft.length=N:=⟨_,rfl⟩
   have hNi:(fs.length:Int)*ft.length=(N:Int):=by rw [<- hN];push_cast;rfl
   have hNb:N<=4194304:=by rw [<- hN];exact jc (tK a2 b2) (by decide)
   have hN0:0<N:=by rw [<- hN];exact Nat.mul_pos (by omega) (by omega)
   have hnt:(N:Int).toNat=N:=by omega
   have hl1:=dD (·.f) fs.length al
   have hl2:=dD (·.f) ft.length bl
   have hn0:=UK (m:=fs.length) (n:=ft.length) (by omega) (by omega)
   rw [hN] at hn0
   have hrl:(List.replicate N (0:Int)).length=N:=List.length_replicate
   refine zF ⟨?_⟩
   refine aF ay aK (v1) ?_
   rintro _ rfl
   refine zG ⟨?_⟩
   refine zF ⟨?_⟩
   refine aF ay aK (v2) ?_
   rintro _ rfl
   refine zG ⟨?_⟩
   refine zF ⟨?_⟩
   refine aF ay aK (r1 ho1) ?_
   rintro _ rfl
   refine ⟨(by simp only [aJ,wY,HV.refFree,dm,HV.noRd,HL.ints_noRd,HL.bools_noRd,dR,mZ,lX,l9,kE,Bool.and_true,jf,Bool.and_self,mQ,beq_self_eq_true,List.cons_append,List.nil_append]),_,_,_,_,_,zT,(by decide),lH,?_⟩
   refine zF ⟨?_⟩
   refine aF ay aK (r2 ho2) ?_
   rintro _ rfl
   refine ⟨(by simp only [aJ,wY,HV.refFree,dm,HV.noRd,HL.ints_noRd,HL.bools_noRd,dR,mZ,lX,l9,kE,Bool.and_true,jf,Bool.and_self,mQ,beq_self_eq_true,List.cons_append,List.nil_append]),_,_,_,_,_,zT,(by decide),lH,?_⟩
   refine eH (zA @hNi @hnt) ⟨?_⟩
   rw [hn0]
   refine aX 560 [1,4] [2,3,4,6,7,8,9,10,11,12] (⟨[(2,.pref 0 [] 0),(3,.pref 1 [] 0),(4,.pref 2 [] 0),(6,.int .i64 ft.length),(7,.ref 3 [] 1 0 fs.length),(8,.ref 4 [] 1 0 ft.length),(9,.ref 5 [] 1 0 N),(10,.ref 6 [] 1 0 1),(11,.pref 7 [] 0),(12,.int .i64 0)],[(0,.optr [.sl fs.length (HL.bools fs),.sl al.length (recs aC al)]),(1,.optr [.sl ft.length (HL.bools ft),.sl bl.length (recs aC bl)]),(2,.optr [.nils,.nils]),(3,.osl 1 fs.length (dw (aG (·.f) fs.length al))),(4,.osl 1 ft.length (dw (aG (·.f) ft.length bl))),(5,.osl 1 N (HL.ints (oP ft.length N [(0,0)]))),(6,.osl 1 1 [.int .i64 0]),(7,.optr [.osl 1 0 [],.osl 4 0 []])],8⟩:St) rfl rfl ?_
   refine az 0 [2,3,4,6,7,8,9,10,11,12] ⟨[(2,.ptr (stripL [.sl fs.length (HL.bools fs),.sl al.length (recs aC al)]) 0),(3,.pref 0 [] 0),(4,.pref 1 [] 0),(6,.int .i64 ft.length),(7,.ref 2 [] 1 0 fs.length),(8,.ref 3 [] 1 0 ft.length),(9,.ref 4 [] 1 0 N),(10,.ref 5 [] 1 0 1),(11,.pref 6 [] 0),(12,.int .i64 0)],[(0,.optr [.sl ft.length (HL.bools ft),.sl bl.length (recs aC bl)]),(1,.optr [.nils,.nils]),(2,.osl 1 fs.length (dw (aG (·.f) fs.length al))),(3,.osl 1 ft.length (dw (aG (·.f) ft.length bl))),(4,.osl 1 N (HL.ints (oP ft.length N [(0,0)]))),(5,.osl 1 1 [.int .i64 0]),(6,.optr [.osl 1 0 [],.osl 4 0 []])],7⟩ rfl ?_
   rw [gu]
   refine az 0 [2,3,4,6,7,8,9,10,11,12] ⟨[(2,.ptr [.sl fs.length (HL.bools fs),.sl al.length (recs aC al)] 0),(3,.ptr (stripL [.sl ft.length (HL.bools ft),.sl bl.length (recs aC bl)]) 0),(4,.pref 0 [] 0),(6,.int .i64 ft.length),(7,.ref 1 [] 1 0 fs.length),(8,.ref 2 [] 1 0 ft.length),(9,.ref 3 [] 1 0 N),(10,.ref 4 [] 1 0 1),(11,.pref 5 [] 0),(12,.int .i64 0)],[(0,.optr [.nils,.nils]),(1,.osl 1 fs.length (dw (aG (·.f) fs.length al))),(2,.osl 1 ft.length (dw (aG (·.f) ft.length bl))),(3,.osl 1 N (HL.ints (oP ft.length N [(0,0)]))),(4,.osl 1 1 [.int .i64 0]),(5,.optr [.osl 1 0 [],.osl 4 0 []])],6⟩ rfl ?_
   rw [gu ft]
   have e1:stripL (win (dw (aG (·.f) fs.length al)) 0 (fs.length*1))=bF (aG (·.f) fs.length al):=by rw [eG _ (by rw [qw,hl1,Nat.mul_one]),ku]
   have e2:stripL (win (dw (aG (·.f) ft.length bl)) 0 (ft.length*1))=bF (aG (·.f) ft.length bl):=by rw [eG _ (by rw [qw,hl2,Nat.mul_one]),ku]
   refine az 1 [2,3,4,6,7,8,9,10,11,12] ⟨[(2,.ptr [.sl fs.length (HL.bools fs),.sl al.length (recs aC al)] 0),(3,.ptr [.sl ft.length (HL.bools ft),.sl bl.length (recs aC bl)] 0),(4,.pref 0 [] 0),(6,.int .i64 ft.length),(7,.sl fs.length (stripL (win (dw (aG (·.f) fs.length al)) 0 (fs.length*1)))),(8,.ref 1 [] 1 0 ft.length),(9,.ref 2 [] 1 0 N),(10,.ref 3 [] 1 0 1),(11,.pref 4 [] 0),(12,.int .i64 0)],[(0,.optr [.nils,.nils]),(1,.osl 1 ft.length (dw (aG (·.f) ft.length bl))),(2,.osl 1 N (HL.ints (oP ft.length N [(0,0)]))),(3,.osl 1 1 [.int .i64 0]),(4,.optr [.osl 1 0 [],.osl 4 0 []])],5⟩ rfl ?_
   rw [e1]
   refine az 1 [2,3,4,6,7,8,9,10,11,12] ⟨[(2,.ptr [.sl fs.length (HL.bools fs),.sl al.length (recs aC al)] 0),(3,.ptr [.sl ft.length (HL.bools ft),.sl bl.length (recs aC bl)] 0),(4,.pref 0 [] 0),(6,.int .i64 ft.length),(7,.sl fs.length (bF (aG (·.f) fs.length al))),(8,.sl ft.length (stripL (win (dw (aG (·.f) ft.length bl)) 0 (ft.length*1)))),(9,.ref 1 [] 1 0 N),(10,.ref 2 [] 1 0 1),(11,.pref 3 [] 0),(12,.int .i64 0)],[(0,.optr [.nils,.nils]),(1,.osl 1 N (HL.ints (oP ft.length N [(0,0)]))),(2,.osl 1 1 [.int .i64 0]),(3,.optr [.osl 1 0 [],.osl 4 0 []])],4⟩ rfl ?_
   rw [e2]
   have hz:([((0,0):Nd)].map (lL ft.length))=[0]:=by simp [lL]
   have:=Zu fs ft al bl ho1 ho2 N hN
   rw [hz] at this
   exact this
  ·have hcn:pK fs ft al bl=(([],[]),1):=by unfold pK;rw [if_neg fun h=>ho2 h.2]
   rw [show okF ft bl=false by simpa using ho2] at v2
   refine zF ⟨?_⟩
   refine aF ay aK (v1) ?_
   rintro _ rfl
   refine zG ⟨?_⟩
   refine zF ⟨?_⟩
   refine aF ay aK (v2) ?_
   rintro _ rfl
   refine zG ⟨?_⟩
   refine zF ⟨?_⟩
   refine aX 32 [1,4] [4,5] (⟨[(4,.pref 0 [] 0),(5,.int .i64 1)],[(0,.optr [.osl 1 0 [],.osl 4 0 []])],1⟩:St) rfl rfl ?_
   refine bQ 0 [4,5] ⟨[(4,.pref 0 [] 0),(5,.int .i64 1)],[(0,.optr [.sl 0 [],.sl 0 []])],1⟩ rfl rfl ?_
   refine ae ?_
   exact ⟨_,_,rfl,rfl,by rw [hcn];rfl⟩
 ·have hcn:pK fs ft al bl=(([],[]),1):=by unfold pK;rw [if_neg fun h=>ho1 h.1]
  rw [show okF fs al=false by simpa using ho1] at v1
  refine zF ⟨?_⟩
  refine aF ay aK (v1) ?_
  rintro _ rfl
  refine zG ⟨?_⟩
  refine zF ⟨?_⟩
  refine aX 32 [1,4] [4,5] (⟨[(4,.pref 0 [] 0),(5,.int .i64 1)],[(0,.optr [.osl 1 0 [],.osl 4 0 []])],1⟩:St) rfl rfl ?_
  refine bQ 0 [4,5] ⟨[(4,.pref 0 [] 0),(5,.int .i64 1)],[(0,.optr [.sl 0 [],.sl 0 []])],1⟩ rfl rfl ?_
  refine ae ?_
  exact ⟨_,_,rfl,rfl,by rw [hcn];rfl⟩
end Go.Proofs.Ytlbdmpjnmfmnfaa
