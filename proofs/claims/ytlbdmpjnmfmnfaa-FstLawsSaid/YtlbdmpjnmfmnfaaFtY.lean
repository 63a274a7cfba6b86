import Derived.Test.YtlbdmpjnmfmnfaaFs2
set_option linter.unusedSimpArgs false
set_option linter.unusedVariables false
namespace Go.Proofs.Ytlbdmpjnmfmnfaa
open Go.RowKit Go.HL Go.FS
set_option maxHeartbeats 8000000 in
theorem Rh (l:List Int) (hl:l.length<=9223372036854775807) (hr:∀k,k<l.length -> -9223372036854775808<=l.getD k 0/\l.getD k 0<=9223372036854775807):HT Try.prog 11 [I l] (fun r=>∃fin al,r=.agg (iC fin al)/\1<=fin.length/\fin.length<=5/\al.length<=9/\okF fin al=true):=by
 refine HT.ofC rfl aea [2] rfl (Nat.le_of_ble_eq_true rfl) ?_
 unfold c11
 simp only [I,aY,Nat.reduceAdd]
 repeat (first|refine ah ?_|refine af ?_|refine ak ?_|refine ae ?_|refine bP eH ?_)
 refine bY bz bW (D7 l 0 5 (by omega) (by omega) (by omega) hl hr) ?_
 rintro _ ⟨n,rfl,hn⟩
 refine ⟨bG,_,_,_,_,_,fU,(by decide),bu,?_⟩
 repeat (first|refine ah ?_|refine af ?_|refine bH ?_|refine ak ?_|refine ae ?_|refine aB ?_|refine cO ?_|refine bP eH ?_|refine di ?_)
 refine fD 96 [1,4] [0,2,3,4,5] (⟨[(0,.sl l.length (HL.ints l)),(2,.pref 0 [] 0),(3,.int .i64 (1+(n:Int))),(4,.pref 1 [] 0),(5,.int .i64 0)],[(0,.optr [.nils,.nils]),(1,.optr [.osl 1 0 [],.osl 4 0 []])],2⟩:St) rfl rfl ?_
 refine cu [0,2,3,4,5] (fun fb:List Bool=>fb.length<=n+1)
  (fun fb=>⟨[(0,.sl l.length (HL.ints l)),(2,.pref 0 [] 0),(3,.int .i64 (1+(n:Int))),(4,.pref 1 [] 0),(5,.int .i64 fb.length)],[(0,.optr [.nils,.nils]),(1,.optr [.osl 1 fb.length (HL.bools fb),.osl 4 0 []])],2⟩) (fun fb=>n+1 - fb.length) [] (by simp) rfl ?_
 intro fb hfb
 by_cases hk:fb.length<n+1
 ·have hat:=D7 l (1+fb.length) 3 (by omega) (by omega) (by omega) hl hr
  rw [show ((1+fb.length:Nat):Int)=1+(fb.length:Int) by omega] at hat
  have hsn:∀b:Bool,(fb++[b]).length=fb.length+1:=by simp
  repeat (first|refine ah ?_|refine af ?_|refine az ?_|refine ax ?_|refine ak ?_|refine ae ?_|refine aB ?_|refine aF ?_)
  refine jP [] [] aT aT (fun _ _ r=>∃y:Nat,r=.int .i64 y/\y<3) (by simp) (by simp) ?_ (by rintro _ _ _ ⟨y,rfl,-⟩ fr;exact jK)
  repeat (first|refine ah ?_|refine aZ ?_|refine bH ?_|refine aI ?_)
  refine dO bz bW hat ⟨.int .i64 (0:Nat),⟨0,rfl,by omega⟩,rfl⟩ ?_
  rintro _ ⟨x,rfl,hx3⟩ -
  refine ⟨bG,_,_,_,_,_,fU,(by decide),bu,?_⟩
  by_cases hx0:x=0
  ·subst hx0
   repeat (first|refine ah ?_|refine af ?_|refine dX ?_|refine bH ?_|refine ae ?_|refine fK ?_|refine aI ?_|refine cO ?_|refine bQ ?_|refine gV ?_)
   exact dB [0,2,3,4,5] (fb++[true]) (by rw [hsn];omega) (by rw [hsn];omega) (by rw [hsn];rfl)
  ·repeat (first|refine ah ?_|refine af ?_|refine dX ?_|refine bH ?_|refine ae ?_|refine fK ?_|refine aI ?_|refine cO ?_|refine bQ ?_|refine gV ?_)
   exact dB [0,2,3,4,5] (fb++[false]) (by rw [hsn];omega) (by rw [hsn];omega) (by rw [hsn];rfl)
 ·have hfn:fb.length=n+1:=by omega
  rw [hfn]
  repeat (first|refine ah ?_|refine af ?_|refine az ?_|refine bK (by rfl) ?_|refine au ?_|refine ak ?_|refine ae ?_)
  refine bY bz bW (D7 l 6 10 (by omega) (by omega) (by omega) hl hr) ?_
  rintro _ ⟨m,rfl,hm⟩
  refine ⟨bG,_,_,_,_,_,fU,(by decide),bu,?_⟩
  repeat (first|refine ah ?_|refine af ?_|refine ak ?_|refine ae ?_|refine aB ?_)
  refine cu [0,2,3,4,6,7] (fun al:List A=>al.length<=m/\∀a∈al,okA (n+1) a=true)
   (fun al=>⟨[(0,.sl l.length (HL.ints l)),(2,.pref 0 [] 0),(3,.int .i64 (1+(n:Int))),(4,.pref 1 [] 0),(6,.int .i64 m),(7,.int .i64 al.length)],[(0,.optr [.nils,.nils]),(1,.optr [.osl 1 (n+1) (HL.bools fb),.osl 4 al.length (recs aC al)])],2⟩) (fun al=>m - al.length) [] ⟨by simp,by simp⟩ rfl ?_
  rintro al ⟨hal,hok⟩
  by_cases hk2:al.length<m
  ·have hat1:=D7 l (7+2*al.length) 1048576 (by omega) (by omega) (by omega) hl hr
   have hat2:=D7 l (8+2*al.length) 1048576 (by omega) (by omega) (by omega) hl hr
   rw [show ((7+2*al.length:Nat):Int)=7+2*(al.length:Int) by omega] at hat1
   rw [show ((8+2*al.length:Nat):Int)=8+2*(al.length:Int) by omega] at hat2
   have hsn:∀x:A,(al++[x]).length=al.length+1:=by simp
   repeat (first|refine ah ?_|refine af ?_|refine az ?_|refine bH ?_|refine ax ?_|refine ak ?_|refine ae ?_|refine aB ?_|refine aF ?_|refine Us (by rfl) (by rfl) MQ ?_)
   refine bY bz bW (hat1) ?_
   rintro _ ⟨x,rfl,hx⟩
   refine ⟨bG,_,_,_,_,_,fU,(by decide),bu,?_⟩
   repeat (first|refine ah ?_|refine af ?_|refine bH ?_|refine ak ?_|refine ae ?_|refine Us (by rfl) (by rfl) MQ ?_)
   refine bY bz bW (hat2) ?_
   rintro _ ⟨y,rfl,hy⟩
   refine ⟨bG,_,_,_,_,_,fU,(by decide),bu,?_⟩
   have hsx:=zy (x / 5) (by omega)
   have hsy:=zy (y / 5) (by omega)
   have q1:(x:Int).tdiv 5=((x / 5:Nat):Int):=by rw [Int.tdiv_eq_ediv_of_nonneg (by omega)];omega
   have q2:(y:Int).tdiv 5=((y / 5:Nat):Int):=by rw [Int.tdiv_eq_ediv_of_nonneg (by omega)];omega
   repeat (first|refine ah ?_|refine af ?_)
   refine jP [3,8,9] [] aT aT (fun _ _ r=>∃y:Int,r=.int .i64 y /\ -1<=y/\y<=2) (by simp [aG,HV.deep]) (by simp) ?_ (by rintro _ _ _ ⟨y,rfl,-⟩ fr;exact jK)
   repeat (first|refine ah ?_|refine gJ (by rfl) bV (by (try simp (disch:=omega) only [go_sem,reduceIte,Nat.reduceEqDiff,Nat.reduceAdd,Nat.reduceMul,q1,q2]);try rfl) aW (by (try simp (disch:=omega) only [go_sem,q1,q2]);try rfl) aV ?_|refine Um (by rfl) (by rfl) (by omega) (by (try simp (disch:=omega) only [go_sem,Int.reduceAdd,Int.reduceSub,Int.reduceMul,q1,q2]);try rfl) ?_|refine DV (by rfl) (by rfl) (by omega) (by (try simp (disch:=omega) only [go_sem,Int.reduceAdd,Int.reduceSub,Int.reduceMul,q1,q2]);try rfl) ?_|refine aI ?_)
   refine dO bz bW hsx ⟨.int .i64 0,⟨0,rfl,by omega,by omega⟩,rfl⟩ ?_
   rintro _ ⟨a1,rfl,ha1,ha2⟩ -
   refine ⟨bG,_,_,_,_,_,fU,(by decide),bu,?_⟩
   repeat (first|refine ah ?_|refine Um (by rfl) (by rfl) (by omega) (by (try simp (disch:=omega) only [go_sem,Int.reduceAdd,Int.reduceSub,Int.reduceMul,q1,q2]);try rfl) ?_)
   refine dO bz bW hsy ⟨.int .i64 0,⟨0,rfl,by omega,by omega⟩,rfl⟩ ?_
   rintro _ ⟨b1,rfl,hb1,hb2⟩ -
   refine ⟨bG,_,_,_,_,_,fU,(by decide),bu,?_⟩
   repeat (first|refine ah ?_|refine af ?_|refine bH ?_|refine ae ?_|refine fK ?_|refine DV (by rfl) (by rfl) (by omega) MQ ?_|refine aI ?_|refine cO ?_|refine bQ ?_|refine gV ?_|refine di ?_)
   exact dB [0,2,3,4,6,7] (al++[⟨(x:Int).tmod (1+(n:Int)),a1,b1,(y:Int).tmod (1+(n:Int))⟩]) ⟨by rw [hsn];omega,fun a ha=>by
    rcases List.mem_append.1 ha with ha|ha
    ·exact hok a ha
    ·simp only [List.mem_singleton] at ha
     subst ha
     have t1:=Int.tmod_nonneg (1+(n:Int)) (show (0:Int)<=x by omega)
     have t2:=Int.tmod_nonneg (1+(n:Int)) (show (0:Int)<=y by omega)
     have t3:=Int.tmod_lt_of_pos (x:Int) (show (0:Int)<1+n by omega)
     have t4:=Int.tmod_lt_of_pos (y:Int) (show (0:Int)<1+n by omega)
     exact okA_iff.2 ⟨t1,by simp only;omega,t2,by simp only;omega,ha1,by simp only;omega,hb1,by simp only;omega⟩⟩ (by rw [hsn];omega) (by rw [hsn];rfl)
  ·obtain rfl:al.length=m:=by omega
   refine bg 1 [2,4,6,7] ⟨[(2,.pref 0 [] 0),(4,.ptr (stripL [.osl 1 (n+1) (HL.bools fb),.osl 4 al.length (recs aC al)]) 0),(6,.int .i64 al.length),(7,.int .i64 al.length)],[(0,.optr [.nils,.nils])],1⟩ rfl ?_
   rw [show stripL [.osl 1 (n+1) (HL.bools fb),.osl 4 al.length (recs aC al)]=[.sl (n+1) (HL.bools fb),.sl al.length (recs aC al)] by simp [stripL,HV.strip,HL.bools_strip,jf]]
   repeat (first|refine ah ?_|refine af ?_|refine az ?_|refine bK (by rfl) ?_|refine au ?_|refine ak ?_|refine ae ?_|refine bn ?_|refine cO ?_)
   refine ay ?_
   exact ⟨_,_,rfl,rfl,fb,al,by rw [iC,jX,hfn];rfl,by omega,by omega,by omega,by
    simp only [okF,Bool.and_eq_true,decide_eq_true_eq,List.all_eq_true]
    rw [hfn]
    exact ⟨⟨by omega,by omega,by omega⟩,hok⟩⟩
end Go.Proofs.Ytlbdmpjnmfmnfaa
