import Derived.Test.YtlbdmpjnmfmnfaaFtT
set_option linter.unusedSimpArgs false
set_option linter.unusedVariables false
namespace Go.Proofs.Ytlbdmpjnmfmnfaa
set_option linter.unusedSimpArgs false
set_option linter.unnecessarySimpa false
open Go.RowKit Go.HL Go.FS
def nX (d:Int) (a:A):A:=⟨a.f+d,a.i,a.o,a.t+d⟩
def Z9 (d:Int):DS:=⟨fun _ args r=>∃x:Int,args=[.int .i64 x,.ptr [.int .i64 d] 0]/\r=.int .i64 (x+d),fun _=>false⟩
set_option maxHeartbeats 8000000 in
theorem Ph {k:List HI} [hp:Plain k] {rs:List Nat} {Kp:HV->Prop} (R:List A) (d:Int) (a:A) (X:List HV) (m:Nat) (j:Int) (hR:R.length<=100000000) (hd:0<=d/\d<=1000000) (hf:0<=a.f/\a.f<=1000000) (ht:0<=a.t/\a.t<=1000000)
  {c:HCode} (h:hx Try.prog (.c c::k) (finish rs Kp) ⟨[(0,.ref 0 [] 4 0 (R.length+1)),(2,.fn 104 [.pref 1 [] 0]),(10,.sl m X),(11,.int .i64 m),(12,.int .i64 j)],[(0,.osl 4 (R.length+1) (recs aC (R++[nX d a]))),(1,.optr [.int .i64 d])],2⟩) :
  hx Try.prog (.c Nr::.b 1::.c c::k) (finish rs Kp) ⟨[(0,.ref 0 [] 4 0 R.length),(2,.fn 104 [.pref 1 [] 0]),(8,.pref 2 [] 0),(10,.sl m X),(11,.int .i64 m),(12,.int .i64 j)],[(0,.osl 4 R.length (recs aC R)),(1,.optr [.int .i64 d]),(2,.optr [.int .i64 a.f,.int .i64 a.i,.int .i64 a.o,.int .i64 a.t])],3⟩:=by
 unfold Nr
 refine xN (Z9 d) bC ?_
 refine jy (.ref 0 [] 4 0 R.length) _ rfl rfl (by trivial) rfl bC ?_
 refine jy (.fn 104 [.pref 1 [] 0]) _ rfl rfl (by trivial) rfl bC ?_
 refine jy (.pref 2 [] 0) _ rfl rfl (by trivial) rfl bC ?_
 refine jy (.int .i64 a.f) _ rfl rfl (Nat.le_of_ble_eq_true rfl) rfl bC ?_
 refine G6 (f:=104) (cap:=[.pref 1 [] 0]) (vs:=[.int .i64 a.f]) (args:=[.int .i64 a.f,.ptr [.int .i64 d] 0]) rfl rfl rfl ((DV a.f d (by omega) (by omega) hd.1 hd.2).imp fun r h=>⟨_,rfl,h⟩) ⟨_,⟨_,rfl,rfl⟩,rfl⟩ rfl ?_
 rintro _ ⟨x,hx1,rfl⟩ -
 obtain rfl:x=a.f:=by simpa using hx1.symm
 refine ⟨by simp [HV.noRd],_,_,_,_,_,_,rfl,by simp [stride],rfl,by kernel_rfl,(by simp only [kR,o8];rfl),?_⟩
 refine jy (.pref 2 [] 1) _ rfl rfl (by trivial) rfl bC ?_
 refine jy (.int .i64 a.i) _ rfl rfl (Nat.le_of_ble_eq_true rfl) rfl bC ?_
 refine jy (.pref 2 [] 2) _ rfl rfl (by trivial) rfl bC ?_
 refine jy (.int .i64 a.o) _ rfl rfl (Nat.le_of_ble_eq_true rfl) rfl bC ?_
 refine jy (.fn 104 [.pref 1 [] 0]) _ rfl rfl (by trivial) rfl bC ?_
 refine jy (.pref 2 [] 3) _ rfl rfl (by trivial) rfl bC ?_
 refine jy (.int .i64 a.t) _ rfl rfl (Nat.le_of_ble_eq_true rfl) rfl bC ?_
 refine G6 (f:=104) (cap:=[.pref 1 [] 0]) (vs:=[.int .i64 a.t]) (args:=[.int .i64 a.t,.ptr [.int .i64 d] 0]) rfl rfl rfl ((DV a.t d (by omega) (by omega) hd.1 hd.2).imp fun r h=>⟨_,rfl,h⟩) ⟨_,⟨_,rfl,rfl⟩,rfl⟩ rfl ?_
 rintro _ ⟨x,hx1,rfl⟩ -
 obtain rfl:x=a.t:=by simpa using hx1.symm
 refine ⟨by simp [HV.noRd],_,_,_,_,_,_,rfl,by simp [stride],rfl,by kernel_rfl,(by simp only [kR,o8];rfl),?_⟩
 refine jy (.agg [.int .i64 (a.f+d),.int .i64 a.i,.int .i64 a.o,.int .i64 (a.t+d)]) _ rfl rfl (by simp [jQ,setFrom,cellsOf,rO,ev,aA]) rfl bC ?_
 refine Hz (.ref 227 [] 4 0 1) [.put 227 (.osl 4 1 [.int .i64 (a.f+d),.int .i64 a.i,.int .i64 a.o,.int .i64 (a.t+d)])] rfl rfl rfl (by refine ⟨?_,rfl,rfl⟩;repeat (first|trivial|refine ⟨?_,?_⟩)) rfl rfl bC (by simp only [kR,o8];rfl) ?_
 refine Hz (side:=(4=4/\0+1*4<=4/\true=true)/\(R.length+1)*32<=140737488355328/\R.length+1<=maxLen/\4=4/\0+R.length*4<=(recs aC R).length) (.ref 243 [] 4 0 (R.length+1)) [.put 0 .dead,.put 243 (.osl 4 (R.length+1) (recs aC (R++[nX d a])))] rfl rfl ?_ ⟨⟨rfl,by omega,rfl⟩,by omega,by unfold maxLen;omega,rfl,by rw [wV];omega⟩ rfl rfl bC (by simp only [kR,o8];rfl) ?_
 ·have hw:win (recs aC R) 0 (R.length*4)++[HV.int .i64 (a.f+d),.int .i64 a.i,.int .i64 a.o,.int .i64 (a.t+d)]=recs aC (R++[nX d a]):=by
   rw [uO _ rfl,vI];rfl
  show (HV.ref 243 [] 4 0 (R.length+1),[Upd.put 0 .dead,.put 243 (.osl 4 (R.length+1) (win (recs aC R) 0 (R.length*4)++[HV.int .i64 (a.f+d),.int .i64 a.i,.int .i64 a.o,.int .i64 (a.t+d)]))],(4=4/\0+1*4<=4/\true=true)/\(R.length+1)*32<=140737488355328/\R.length+1<=maxLen/\4=4/\0+R.length*4<=(recs aC R).length)=_
  rw [hw]
 refine jy (.ref 243 [] 4 0 (R.length+1)) _ rfl rfl (by trivial) rfl bC ?_
 refine MZ rfl ?_
 refine gV ?_
 exact dR [0,2,10,11,12] _ rfl h
theorem NG (R:List A) (d:Int) {l:List A} {i:Nat} (h:i<l.length):R++(l.take (i+1)).map (nX d)=(R++(l.take i).map (nX d))++[nX d (l.getD i default)]:=by
 rw [dC h];simp
set_option maxHeartbeats 4000000 in
theorem Kt (R:List A) (fin:List Bool) (al:List A) (d:Int) (hv:okF fin al=true) (hd:0<=d/\d<=1000000) (hR:R.length<=1000000) :
  HTM Try.prog 75 [.osl 4 R.length (recs aC R),.agg (iF fin al),.fn 104 [.optr [.int .i64 d]]] (fun r=>r=.osl 4 (R++al.map (nX d)).length (recs aC (R++al.map (nX d)))):=by
 refine HTM.of rfl ZV (Nat.le_of_ble_eq_true rfl) (⟨[(0,.ref 0 [] 4 0 R.length),(1,.agg (iF fin al)),(2,.fn 104 [.pref 1 [] 0])],[(0,.osl 4 R.length (recs aC R)),(1,.optr [.int .i64 d])],2⟩:St) rfl ?_
 unfold c75
 obtain ⟨h1,h2,h3⟩:=gm hv
 have hin:=fun a (ha:a∈al)=>fD hv ha
 simp only [iF,jJ]
 repeat (first|refine ah ?_|refine aW ?_|refine af ?_|refine dm (by rfl) ?_|refine ak ?_|refine ae ?_|refine aK ?_|refine bK ?_|refine aH ?_|refine dX ?_)
 refine dn [0,2,10,11,12] (fun i:Nat=>i<=al.length)
  (fun i=>⟨[(0,.ref 0 [] 4 0 (R++(al.take i).map (nX d)).length),(2,.fn 104 [.pref 1 [] 0]),(10,.sl al.length (recs aC al)),(11,.int .i64 al.length),(12,.int .i64 i)],[(0,.osl 4 (R++(al.take i).map (nX d)).length (recs aC (R++(al.take i).map (nX d)))),(1,.optr [.int .i64 d])],2⟩)
  (fun i=>al.length - i) 0 (by omega) (by simp;rfl) ?_
 intro i hi
 have hl:(R++(al.take i).map (nX d)).length<=R.length+i:=by rw [List.length_append,List.length_map,List.length_take];omega
 by_cases hil:i<al.length
 ·have hst:=NG R d hil
  have hok:=hin (al.getD i default) (by rw [List.getD_eq_getElem?_getD,List.getElem?_eq_getElem hil];exact List.getElem_mem hil)
  generalize hQ:R++(al.take i).map (nX d)=Q at hst hl ⊢
  repeat (first|refine bu ?_|refine af ?_|refine aF ?_|refine ax ?_|refine ak ?_|refine ae ?_|refine aK ?_|refine aI ?_|refine bG ?_|refine dG ?_|refine bI dZ ?_)
  refine dR [0,2,8,10,11,12] ⟨[(0,.ref 0 [] 4 0 Q.length),(2,.fn 104 [.pref 1 [] 0]),(8,.pref 2 [] 0),(10,.sl al.length (recs aC al)),(11,.int .i64 al.length),(12,.int .i64 i)],[(0,.osl 4 Q.length (recs aC Q)),(1,.optr [.int .i64 d]),(2,.optr [.int .i64 (al.getD i default).f,.int .i64 (al.getD i default).i,.int .i64 (al.getD i default).o,.int .i64 (al.getD i default).t])],3⟩ rfl ?_
  refine Ph Q d (al.getD i default) (recs aC al) al.length i (by omega) hd (by omega) (by omega) ?_
  repeat (first|refine ah ?_|refine af ?_|refine bM ?_|refine ae ?_)
  refine dS [0,2,10,11,12] (i+1) hil (by omega) ?_
  rw [hst]
  simp only [List.length_append,List.length_cons,List.length_nil,Nat.zero_add]
  rfl
 ·have e0:al.take i=al:=List.take_of_length_le (by omega)
  rw [e0] at hl ⊢
  generalize R++al.map (nX d)=Q at hl ⊢
  repeat (first|refine ah ?_|refine af ?_|refine aF ?_|refine bZ (by rfl) ?_|refine au ?_|refine ak ?_|refine ae ?_)
  refine ay ?_
  rfl
end Go.Proofs.Ytlbdmpjnmfmnfaa
