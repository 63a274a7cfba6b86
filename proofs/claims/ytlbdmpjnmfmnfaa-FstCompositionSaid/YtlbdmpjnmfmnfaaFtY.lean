import Derived.Test.YtlbdmpjnmfmnfaaFs2
set_option linter.unusedSimpArgs false
set_option linter.unusedVariables false
namespace Go.Proofs.Ytlbdmpjnmfmnfaa
open Go.RowKit Go.HL Go.FS
set_option maxHeartbeats 8000000 in
theorem FZ (l:List Int) (hl:l.length<=9223372036854775807) (hr:∀k,k<l.length -> -9223372036854775808<=l.getD k 0/\l.getD k 0<=9223372036854775807):HT Try.prog 11 [I l] (fun r=>∃fin al,r=.agg (gX fin al)/\1<=fin.length/\fin.length<=5/\al.length<=9/\okF fin al=true):=by
 refine HT.ofC rfl YU [2] rfl (Nat.le_of_ble_eq_true rfl) ?_
 unfold c11
 simp only [I,aW,Nat.reduceAdd]
 repeat (first|refine ag ?_|refine af ?_|refine ah ?_|refine ae ?_|refine bY dZ ?_)
 refine bZ bJ cZ (Bf l 0 5 (by omega) (by omega) (by omega) hl hr) ?_
 rintro _ ⟨n,rfl,hn⟩
 refine ⟨bP,_,_,_,_,_,gV,(by decide),bH,?_⟩
 repeat (first|refine ag ?_|refine af ?_|refine bz ?_|refine ah ?_|refine ae ?_|refine aG ?_|refine dV ?_|refine bY dZ ?_|refine di ?_)
 refine gY 96 [1,4] [0,2,3,4,5] (⟨[(0,.sl l.length (HL.ints l)),(2,.pref 0 [] 0),(3,.int .i64 (1+(n:Int))),(4,.pref 1 [] 0),(5,.int .i64 0)],[(0,.optr [.nils,.nils]),(1,.optr [.osl 1 0 [],.osl 4 0 []])],2⟩:St) rfl rfl ?_
 refine cu [0,2,3,4,5] (fun fb:List Bool=>fb.length<=n+1)
  (fun fb=>⟨[(0,.sl l.length (HL.ints l)),(2,.pref 0 [] 0),(3,.int .i64 (1+(n:Int))),(4,.pref 1 [] 0),(5,.int .i64 fb.length)],[(0,.optr [.nils,.nils]),(1,.optr [.osl 1 fb.length (HL.bools fb),.osl 4 0 []])],2⟩) (fun fb=>n+1 - fb.length) [] (by simp) rfl ?_
 intro fb hfb
 by_cases hk:fb.length<n+1
 ·have hat:=Bf l (1+fb.length) 3 (by omega) (by omega) (by omega) hl hr
  rw [show ((1+fb.length:Nat):Int)=1+(fb.length:Int) by omega] at hat
  have hsn:∀b:Bool,(fb++[b]).length=fb.length+1:=by simp
  repeat (first|refine ag ?_|refine af ?_|refine az ?_|refine ak ?_|refine ah ?_|refine ae ?_|refine aG ?_|refine aA ?_)
  refine kw [] [] bK bK (fun _ _ r=>∃y:Nat,r=.int .i64 y/\y<3) (by simp) (by simp) ?_ (by rintro _ _ _ ⟨y,rfl,-⟩ fr;exact iW)
  repeat (first|refine ag ?_|refine aY ?_|refine bz ?_|refine aI ?_)
  refine iy bJ cZ hat ⟨.int .i64 (0:Nat),⟨0,rfl,by omega⟩,rfl⟩ ?_
  rintro _ ⟨x,rfl,hx3⟩ -
  refine ⟨bP,_,_,_,_,_,gV,(by decide),bH,?_⟩
  by_cases hx0:x=0
  ·subst hx0
   repeat (first|refine ag ?_|refine af ?_|refine dH ?_|refine bz ?_|refine ae ?_|refine fJ ?_|refine aI ?_|refine dV ?_|refine bQ ?_|refine gZ ?_)
   exact dC [0,2,3,4,5] (fb++[true]) (by rw [hsn];omega) (by rw [hsn];omega) (by rw [hsn];rfl)
  ·repeat (first|refine ag ?_|refine af ?_|refine dH ?_|refine bz ?_|refine ae ?_|refine fJ ?_|refine aI ?_|refine dV ?_|refine bQ ?_|refine gZ ?_)
   exact dC [0,2,3,4,5] (fb++[false]) (by rw [hsn];omega) (by rw [hsn];omega) (by rw [hsn];rfl)
 ·have hfn:fb.length=n+1:=by omega
  rw [hfn]
  repeat (first|refine ag ?_|refine af ?_|refine az ?_|refine bF (by rfl) ?_|refine au ?_|refine ah ?_|refine ae ?_)
  refine bZ bJ cZ (Bf l 6 10 (by omega) (by omega) (by omega) hl hr) ?_
  rintro _ ⟨m,rfl,hm⟩
  refine ⟨bP,_,_,_,_,_,gV,(by decide),bH,?_⟩
  repeat (first|refine ag ?_|refine af ?_|refine ah ?_|refine ae ?_|refine aG ?_)
  refine cu [0,2,3,4,6,7] (fun al:List A=>al.length<=m/\∀a∈al,okA (n+1) a=true)
   (fun al=>⟨[(0,.sl l.length (HL.ints l)),(2,.pref 0 [] 0),(3,.int .i64 (1+(n:Int))),(4,.pref 1 [] 0),(6,.int .i64 m),(7,.int .i64 al.length)],[(0,.optr [.nils,.nils]),(1,.optr [.osl 1 (n+1) (HL.bools fb),.osl 4 al.length (recs aC al)])],2⟩) (fun al=>m - al.length) [] ⟨by simp,by simp⟩ rfl ?_
  rintro al ⟨hal,hok⟩
  by_cases hk2:al.length<m
  ·have hat1:=Bf l (7+2*al.length) 1048576 (by omega) (by omega) (by omega) hl hr
   have hat2:=Bf l (8+2*al.length) 1048576 (by omega) (by omega) (by omega) hl hr
   rw [show ((7+2*al.length:Nat):Int)=7+2*(al.length:Int) by omega] at hat1
   rw [show ((8+2*al.length:Nat):Int)=8+2*(al.length:Int) by omega] at hat2
   have hsn:∀x:A,(al++[x]).length=al.length+1:=by simp
   repeat (first|refine ag ?_|refine af ?_|refine az ?_|refine bz ?_|refine ak ?_|refine ah ?_|refine ae ?_|refine aG ?_|refine aA ?_|refine O4 (by rfl) (by rfl) Lu ?_)
   refine bZ bJ cZ (hat1) ?_
   rintro _ ⟨x,rfl,hx⟩
   refine ⟨bP,_,_,_,_,_,gV,(by decide),bH,?_⟩
   repeat (first|refine ag ?_|refine af ?_|refine bz ?_|refine ah ?_|refine ae ?_|refine O4 (by rfl) (by rfl) Lu ?_)
   refine bZ bJ cZ (hat2) ?_
   rintro _ ⟨y,rfl,hy⟩
   refine ⟨bP,_,_,_,_,_,gV,(by decide),bH,?_⟩
   have hsx:=xq (x / 5) (by omega)
   have hsy:=xq (y / 5) (by omega)
   have q1:(x:Int).tdiv 5=((x / 5:Nat):Int):=by rw [Int.tdiv_eq_ediv_of_nonneg (by omega)];omega
   have q2:(y:Int).tdiv 5=((y / 5:Nat):Int):=by rw [Int.tdiv_eq_ediv_of_nonneg (by omega)];omega
   repeat (first|refine ag ?_|refine af ?_)
   refine kw [3,8,9] [] bK bK (fun _ _ r=>∃y:Int,r=.int .i64 y /\ -1<=y/\y<=2) (by simp [aH,HV.deep]) (by simp) ?_ (by rintro _ _ _ ⟨y,rfl,-⟩ fr;exact iW)
   repeat (first|refine ag ?_|refine iw (by rfl) bT (by (try simp (disch:=omega) only [go_sem,reduceIte,Nat.reduceEqDiff,Nat.reduceAdd,Nat.reduceMul,q1,q2]);try rfl) aS (by (try simp (disch:=omega) only [go_sem,q1,q2]);try rfl) aJ ?_|refine O6 (by rfl) (by rfl) (by omega) (by (try simp (disch:=omega) only [go_sem,Int.reduceAdd,Int.reduceSub,Int.reduceMul,q1,q2]);try rfl) ?_|refine BB (by rfl) (by rfl) (by omega) (by (try simp (disch:=omega) only [go_sem,Int.reduceAdd,Int.reduceSub,Int.reduceMul,q1,q2]);try rfl) ?_|refine aI ?_)
   refine iy bJ cZ hsx ⟨.int .i64 0,⟨0,rfl,by omega,by omega⟩,rfl⟩ ?_
   rintro _ ⟨a1,rfl,ha1,ha2⟩ -
   refine ⟨bP,_,_,_,_,_,gV,(by decide),bH,?_⟩
   repeat (first|refine ag ?_|refine O6 (by rfl) (by rfl) (by omega) (by (try simp (disch:=omega) only [go_sem,Int.reduceAdd,Int.reduceSub,Int.reduceMul,q1,q2]);try rfl) ?_)
   refine iy bJ cZ hsy ⟨.int .i64 0,⟨0,rfl,by omega,by omega⟩,rfl⟩ ?_
   rintro _ ⟨b1,rfl,hb1,hb2⟩ -
   refine ⟨bP,_,_,_,_,_,gV,(by decide),bH,?_⟩
   repeat (first|refine ag ?_|refine af ?_|refine bz ?_|refine ae ?_|refine fJ ?_|refine BB (by rfl) (by rfl) (by omega) Lu ?_|refine aI ?_|refine dV ?_|refine bQ ?_|refine gZ ?_|refine di ?_)
   exact dC [0,2,3,4,6,7] (al++[⟨(x:Int).tmod (1+(n:Int)),a1,b1,(y:Int).tmod (1+(n:Int))⟩]) ⟨by rw [hsn];omega,fun a ha=>by
    rcases List.mem_append.1 ha with ha|ha
    ·exact hok a ha
    ·simp only [List.mem_singleton] at ha
     subst ha
     have t1:=Int.tmod_nonneg (1+(n:Int)) (show (0:Int)<=x by omega)
     have t2:=Int.tmod_nonneg (1+(n:Int)) (show (0:Int)<=y by omega)
     have t3:=Int.tmod_lt_of_pos (x:Int) (show (0:Int)<1+n by omega)
     have t4:=Int.tmod_lt_of_pos (y:Int) (show (0:Int)<1+n by omega)
     exact okA_iff.2 ⟨t1,by simp only;omega,t2,by simp only;omega,ha1,by simp only;omega,hb1,by simp only;omega⟩⟩ (by rw [hsn];omega) (by rw [hsn];rfl)
  ·obtain rfl:al.length=m:=by omega
   refine bM 1 [2,4,6,7] ⟨[(2,.pref 0 [] 0),(4,.ptr (stripL [.osl 1 (n+1) (HL.bools fb),.osl 4 al.length (recs aC al)]) 0),(6,.int .i64 al.length),(7,.int .i64 al.length)],[(0,.optr [.nils,.nils])],1⟩ rfl ?_
   rw [show stripL [.osl 1 (n+1) (HL.bools fb),.osl 4 al.length (recs aC al)]=[.sl (n+1) (HL.bools fb),.sl al.length (recs aC al)] by simp [stripL,HV.strip,HL.bools_strip,jO]]
   repeat (first|refine ag ?_|refine af ?_|refine az ?_|refine bF (by rfl) ?_|refine au ?_|refine ah ?_|refine ae ?_|refine bI ?_|refine dV ?_)
   refine ax ?_
   exact ⟨_,_,rfl,rfl,fb,al,by rw [gX,ji,hfn];rfl,by omega,by omega,by omega,by
    simp only [okF,Bool.and_eq_true,decide_eq_true_eq,List.all_eq_true]
    rw [hfn]
    exact ⟨⟨by omega,by omega,by omega⟩,hok⟩⟩
end Go.Proofs.Ytlbdmpjnmfmnfaa
