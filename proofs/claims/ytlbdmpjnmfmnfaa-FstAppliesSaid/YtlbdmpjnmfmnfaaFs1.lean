import Derived.Test.YtlbdmpjnmfmnfaaFt2
import Derived.Test.YtlbdmpjnmfmnfaaFsO
import Derived.Test.YtlbdmpjnmfmnfaaHlDn
section
set_option linter.unusedSimpArgs false
set_option linter.unusedVariables false
namespace Go.Proofs.Ytlbdmpjnmfmnfaa
open Go.RowKit Go.HL
theorem nP (n:Int) (m:Nat) (hm:0<m) (hm2:m<=1099511627776) (h1 : -9223372036854775808<=n) (h2:n<=9223372036854775807):HT Try.prog 16 [.int .i64 n,.int .i64 m] (fun r=>∃y:Nat,r=.int .i64 y/\y<m):=by
 refine HT.of rfl abj (Nat.le_of_ble_eq_true rfl) ?_
 unfold c16
 simp only [aX,Nat.reduceAdd]
 by_cases h0:n<0
 ·obtain ⟨x,hx⟩:∃x:Nat,0 - (n+1)=x:=⟨(-(n+1)).toNat,by omega⟩
  have ht:(x:Int).tmod m=((x % m:Nat):Int):=(Int.ofNat_tmod x m).symm
  have hlt:=Nat.mod_lt x hm
  repeat (first|refine ah ?_|refine af ?_|refine ay ?_|refine eU (by rfl) (by rfl) (by (try simp (disch:=omega) only [go_sem,Int.reduceAdd,Int.reduceSub,Int.reduceMul,hx,ht]);try rfl) ?_|refine ak ?_|refine au ?_|refine ae ?_|refine mG (by rfl) (by rfl) (by omega) (by (try simp (disch:=omega) only [go_sem,Int.reduceAdd,Int.reduceSub,Int.reduceMul,hx,ht]);try rfl) ?_|refine aaX (by rfl) (by (try simp (disch:=omega) only [go_sem,Int.reduceAdd,Int.reduceSub,Int.reduceMul,hx,ht]);try rfl) ?_)
  refine az ?_
  exact ⟨x % m,rfl,hlt⟩
 ·obtain ⟨x,rfl⟩:∃x:Nat,n=x:=⟨n.toNat,by omega⟩
  have ht:(x:Int).tmod m=((x % m:Nat):Int):=(Int.ofNat_tmod x m).symm
  have hlt:=Nat.mod_lt x hm
  repeat (first|refine ah ?_|refine af ?_|refine ay ?_|refine ax ?_|refine au ?_|refine ae ?_|refine aH ?_|refine mG (by rfl) (by rfl) (by omega) (by (try simp (disch:=omega) only [go_sem,Int.reduceAdd,Int.reduceSub,Int.reduceMul,ht]);try rfl) ?_)
  refine az ?_
  exact ⟨x % m,rfl,hlt⟩
theorem LP (l:List Int) (m:Nat) (hl:l.length<=9223372036854775807) (hm:m<=100000):HT Try.prog 15 [I l,.int .i64 m] (fun r=>r=.osl 1 (l.take m).length (HL.ints (l.take m))):=by
 refine HT.of rfl abM (Nat.le_of_ble_eq_true rfl) ?_
 unfold c15
 simp only [I,aX,Nat.reduceAdd]
 have hwin:∀k:Nat,win (HL.ints l) 0 k=HL.ints (l.take k):=fun k=>by
  unfold win HL.ints
  rw [List.drop_zero,List.map_take]
  split
  ·rename_i e;rw [List.take_of_length_le (by omega)]
  ·rfl
 by_cases h:m<l.length
 ·have hmm:(if (m:Int)<(l.length:Int) then (m:Int) else (l.length:Int))=(m:Int):=if_pos (by omega)
  have htl:(l.take m).length=m:=by simp;omega
  rw [htl]
  have htb:(HL.ints (l.take m)).length=m:=by rw [HL.ints_len,htl]
  repeat (first|refine ah ?_|refine af ?_|refine aB ?_|refine au ?_|refine ae ?_|refine aZ ?_|refine Lj (by rfl) (by rfl) (by rfl) (by omega) aI dN (by (try simp (disch:=omega) only [go_sem,reduceIte,Nat.reduceEqDiff,Nat.reduceAdd,Nat.reduceMul,hmm,hwin,htl,htb]);try rfl) ?_|refine Pg (by rfl) (by rfl) (by (try simp only [go_sem,reduceIte,hmm,hwin,htl,htb]);try rfl) ?_|refine iM dN (by rfl) aQ l9 (by (try simp (disch:=omega) only [go_sem,reduceIte,Nat.reduceEqDiff,Nat.reduceAdd,Nat.reduceMul,hmm,hwin,htl,htb]);try omega) aW (by (try simp (disch:=omega) only [go_sem,reduceIte,Nat.reduceEqDiff,Nat.reduceAdd,Nat.reduceMul,hmm,hwin,htl,htb]);try rfl) dN (by omega) fP aG (by (try simp (disch:=omega) only [go_sem,reduceIte,Nat.reduceEqDiff,Nat.reduceAdd,Nat.reduceMul,hmm,hwin,htl,htb]);try rfl) aI ?_)
  refine az ?_
  rfl
 ·have hmm:(if (m:Int)<(l.length:Int) then (m:Int) else (l.length:Int))=(l.length:Int):=if_neg (by omega)
  rw [List.take_of_length_le (by omega)]
  repeat (first|refine ah ?_|refine af ?_|refine aB ?_|refine au ?_|refine ae ?_|refine aZ ?_|refine Lj (by rfl) (by rfl) (by rfl) (by omega) aI dN (by (try simp (disch:=omega) only [go_sem,reduceIte,Nat.reduceEqDiff,Nat.reduceAdd,Nat.reduceMul,hmm]);try rfl) ?_|refine Pg (by rfl) (by rfl) (by (try simp only [go_sem,reduceIte,hmm]);try rfl) ?_|refine iM dN (by rfl) aQ l9 (by (try simp (disch:=omega) only [go_sem,reduceIte,Nat.reduceEqDiff,Nat.reduceAdd,Nat.reduceMul,hmm]);try omega) aW (by (try simp (disch:=omega) only [go_sem,reduceIte,Nat.reduceEqDiff,Nat.reduceAdd,Nat.reduceMul,hmm]);try rfl) dN (by omega) fP aG (by (try simp (disch:=omega) only [go_sem,reduceIte,Nat.reduceEqDiff,Nat.reduceAdd,Nat.reduceMul,hmm]);try rfl) aI ?_)
  refine az ?_
  rfl
theorem A8 (l:List Int) (i:Nat) (m:Nat) (hm:0<m) (hm2:m<=1099511627776) (hi:i<=1000000) (hl:l.length<=9223372036854775807) (hr:∀k,k<l.length -> -9223372036854775808<=l.getD k 0/\l.getD k 0<=9223372036854775807):HT Try.prog 50 [I l,.int .i64 i,.int .i64 m] (fun r=>∃y:Nat,r=.int .i64 y/\y<m):=by
 refine HT.of rfl abS (Nat.le_of_ble_eq_true rfl) ?_
 unfold c50
 simp only [I,aX,Nat.reduceAdd]
 by_cases hil:i<l.length
 ·have:=hr i hil
  repeat (first|refine ah ?_|refine aO ?_|refine aJ ?_|refine dD ?_|refine af ?_|refine ay ?_|refine aN ?_|refine aB ?_|refine ax ?_|refine au ?_|refine ae ?_|refine aH ?_|refine dh ?_)
  refine dF bW dm (nP (l.getD i 0) m hm hm2 this.1 this.2) ?_
  rintro _ ⟨y,rfl,hy⟩
  refine ⟨cO,_,_,_,_,_,gY,(by decide),bT,?_⟩
  repeat (first|refine ah ?_|refine af ?_)
  refine az ?_
  exact ⟨y,rfl,hy⟩
 ·repeat (first|refine ah ?_|refine aO ?_|refine af ?_|refine ay ?_|refine aN ?_|refine aB ?_|refine ak ?_|refine au ?_|refine ae ?_|refine dh ?_)
  refine az ?_
  exact ⟨0,rfl,hm⟩
end Go.Proofs.Ytlbdmpjnmfmnfaa
end
section
set_option linter.unusedSimpArgs false
set_option linter.unusedVariables false
namespace Go.Proofs.Ytlbdmpjnmfmnfaa
open Go.RowKit Go.HL Go.FS
theorem xx (x:Nat) (h:x<=1048576):HT Try.prog 51 [.int .i64 x] (fun r=>∃y:Int,r=.int .i64 y /\ -1<=y/\y<=2):=by
 refine HT.of rfl abB (Nat.le_of_ble_eq_true rfl) ?_
 unfold c51
 simp only [aX,Nat.reduceAdd]
 have h7:((x:Int).tmod 7).tmod 4=((x % 7 % 4:Nat):Int):=by
  have e:(x:Int).tmod 7=(x:Int) % 7:=Int.tmod_eq_emod_of_nonneg (by omega)
  rw [e,Int.tmod_eq_emod_of_nonneg (by omega)];omega
 have h8:x % 7 % 4<4:=Nat.mod_lt _ (by decide)
 generalize x % 7 % 4=y at h7 h8
 repeat (first|refine ah ?_|refine af ?_|refine au ?_|refine ae ?_|refine wS (by rfl) (by rfl) (by (try simp (disch:=omega) only [go_sem,Int.reduceAdd,Int.reduceSub,Int.reduceMul,h7]);try rfl) ?_|refine mG (by rfl) (by rfl) (by omega) (by (try simp (disch:=omega) only [go_sem,Int.reduceAdd,Int.reduceSub,Int.reduceMul,h7]);try rfl) ?_)
 refine az ?_
 exact ⟨_,rfl,by omega,by omega⟩
set_option maxHeartbeats 8000000 in
theorem Td (l:List Int) (hl:l.length<=9223372036854775807) (hr:∀k,k<l.length -> -9223372036854775808<=l.getD k 0/\l.getD k 0<=9223372036854775807):HT Try.prog 11 [I l] (fun r=>∃fin al,r=.agg (fK fin al)/\1<=fin.length/\fin.length<=5/\al.length<=9):=by
 refine HT.ofC rfl aby [2] rfl (Nat.le_of_ble_eq_true rfl) ?_
 unfold c11
 simp only [I,aX,Nat.reduceAdd]
 repeat (first|refine ah ?_|refine af ?_|refine au ?_|refine ae ?_|refine bU dN ?_)
 refine dF bW dm (A8 l 0 5 (by omega) (by omega) (by omega) hl hr) ?_
 rintro _ ⟨n,rfl,hn⟩
 refine ⟨cO,_,_,_,_,_,gY,(by decide),bT,?_⟩
 repeat (first|refine ah ?_|refine af ?_|refine bf ?_|refine au ?_|refine ae ?_|refine aA ?_|refine dw ?_|refine bU dN ?_|refine dB ?_)
 refine gQ 96 [1,4] [0,2,3,4,5] (⟨[(0,.sl l.length (HL.ints l)),(2,.pref 0 [] 0),(3,.int .i64 (1+(n:Int))),(4,.pref 1 [] 0),(5,.int .i64 0)],[(0,.optr [.nils,.nils]),(1,.optr [.osl 1 0 [],.osl 4 0 []])],2⟩:St) rfl rfl ?_
 refine bQ [0,2,3,4,5] (fun fb:List Bool=>fb.length<=n+1)
  (fun fb=>⟨[(0,.sl l.length (HL.ints l)),(2,.pref 0 [] 0),(3,.int .i64 (1+(n:Int))),(4,.pref 1 [] 0),(5,.int .i64 fb.length)],[(0,.optr [.nils,.nils]),(1,.optr [.osl 1 fb.length (HL.bools fb),.osl 4 0 []])],2⟩) (fun fb=>n+1 - fb.length) [] (by simp) rfl ?_
 intro fb hfb
 by_cases hk:fb.length<n+1
 ·have hat:=A8 l (1+fb.length) 3 (by omega) (by omega) (by omega) hl hr
  rw [show ((1+fb.length:Nat):Int)=1+(fb.length:Int) by omega] at hat
  have hsn:∀b:Bool,(fb++[b]).length=fb.length+1:=by simp
  repeat (first|refine ah ?_|refine af ?_|refine ay ?_|refine ak ?_|refine au ?_|refine ae ?_|refine aA ?_|refine aH ?_)
  refine iU [] [] bu bu (fun _ _ r=>∃y:Nat,r=.int .i64 y/\y<3) (by simp) (by simp) ?_ (by rintro _ _ _ ⟨y,rfl,-⟩ fr;exact jo)
  repeat (first|refine ah ?_|refine aS ?_|refine bf ?_|refine aF ?_)
  refine fD bW dm hat ⟨.int .i64 (0:Nat),⟨0,rfl,by omega⟩,rfl⟩ ?_
  rintro _ ⟨x,rfl,hx3⟩ -
  refine ⟨cO,_,_,_,_,_,gY,(by decide),bT,?_⟩
  by_cases hx0:x=0
  ·subst hx0
   repeat (first|refine ah ?_|refine af ?_|refine bC ?_|refine bf ?_|refine ae ?_|refine dH ?_|refine aF ?_|refine dw ?_|refine bP ?_|refine gz ?_)
   exact bZ [0,2,3,4,5] (fb++[true]) (by rw [hsn];omega) (by rw [hsn];omega) (by rw [hsn];rfl)
  ·repeat (first|refine ah ?_|refine af ?_|refine bC ?_|refine bf ?_|refine ae ?_|refine dH ?_|refine aF ?_|refine dw ?_|refine bP ?_|refine gz ?_)
   exact bZ [0,2,3,4,5] (fb++[false]) (by rw [hsn];omega) (by rw [hsn];omega) (by rw [hsn];rfl)
 ·have hfn:fb.length=n+1:=by omega
  rw [hfn]
  repeat (first|refine ah ?_|refine af ?_|refine ay ?_|refine bD (by rfl) ?_|refine ax ?_|refine au ?_|refine ae ?_)
  refine dF bW dm (A8 l 6 10 (by omega) (by omega) (by omega) hl hr) ?_
  rintro _ ⟨m,rfl,hm⟩
  refine ⟨cO,_,_,_,_,_,gY,(by decide),bT,?_⟩
  repeat (first|refine ah ?_|refine af ?_|refine au ?_|refine ae ?_|refine aA ?_)
  refine bQ [0,2,3,4,6,7] (fun al:List A=>al.length<=m)
   (fun al=>⟨[(0,.sl l.length (HL.ints l)),(2,.pref 0 [] 0),(3,.int .i64 (1+(n:Int))),(4,.pref 1 [] 0),(6,.int .i64 m),(7,.int .i64 al.length)],[(0,.optr [.nils,.nils]),(1,.optr [.osl 1 (n+1) (HL.bools fb),.osl 4 al.length (recs aC al)])],2⟩) (fun al=>m - al.length) [] (by simp) rfl ?_
  intro al hal
  by_cases hk2:al.length<m
  ·have hat1:=A8 l (7+2*al.length) 1048576 (by omega) (by omega) (by omega) hl hr
   have hat2:=A8 l (8+2*al.length) 1048576 (by omega) (by omega) (by omega) hl hr
   rw [show ((7+2*al.length:Nat):Int)=7+2*(al.length:Int) by omega] at hat1
   rw [show ((8+2*al.length:Nat):Int)=8+2*(al.length:Int) by omega] at hat2
   have hsn:∀x:A,(al++[x]).length=al.length+1:=by simp
   repeat (first|refine ah ?_|refine af ?_|refine ay ?_|refine bf ?_|refine ak ?_|refine au ?_|refine ae ?_|refine aA ?_|refine aH ?_|refine pg (by rfl) (by rfl) JY ?_)
   refine dF bW dm (hat1) ?_
   rintro _ ⟨x,rfl,hx⟩
   refine ⟨cO,_,_,_,_,_,gY,(by decide),bT,?_⟩
   repeat (first|refine ah ?_|refine af ?_|refine bf ?_|refine au ?_|refine ae ?_|refine pg (by rfl) (by rfl) JY ?_)
   refine dF bW dm (hat2) ?_
   rintro _ ⟨y,rfl,hy⟩
   refine ⟨cO,_,_,_,_,_,gY,(by decide),bT,?_⟩
   have hsx:=xx (x / 5) (by omega)
   have hsy:=xx (y / 5) (by omega)
   have q1:(x:Int).tdiv 5=((x / 5:Nat):Int):=by rw [Int.tdiv_eq_ediv_of_nonneg (by omega)];omega
   have q2:(y:Int).tdiv 5=((y / 5:Nat):Int):=by rw [Int.tdiv_eq_ediv_of_nonneg (by omega)];omega
   repeat (first|refine ah ?_|refine af ?_)
   refine iU [3,8,9] [] bu bu (fun _ _ r=>∃y:Int,r=.int .i64 y /\ -1<=y/\y<=2) (by simp [aV,HV.deep]) (by simp) ?_ (by rintro _ _ _ ⟨y,rfl,-⟩ fr;exact jo)
   repeat (first|refine ah ?_|refine dK (by rfl) aW (by (try simp (disch:=omega) only [go_sem,reduceIte,Nat.reduceEqDiff,Nat.reduceAdd,Nat.reduceMul,q1,q2]);try rfl) aG (by (try simp (disch:=omega) only [go_sem,q1,q2]);try rfl) aQ ?_|refine sZ (by rfl) (by rfl) (by omega) (by (try simp (disch:=omega) only [go_sem,Int.reduceAdd,Int.reduceSub,Int.reduceMul,q1,q2]);try rfl) ?_|refine mG (by rfl) (by rfl) (by omega) (by (try simp (disch:=omega) only [go_sem,Int.reduceAdd,Int.reduceSub,Int.reduceMul,q1,q2]);try rfl) ?_|refine aF ?_)
   refine fD bW dm hsx ⟨.int .i64 0,⟨0,rfl,by omega,by omega⟩,rfl⟩ ?_
   rintro _ ⟨a1,rfl,ha1,ha2⟩ -
   refine ⟨cO,_,_,_,_,_,gY,(by decide),bT,?_⟩
   repeat (first|refine ah ?_|refine sZ (by rfl) (by rfl) (by omega) (by (try simp (disch:=omega) only [go_sem,Int.reduceAdd,Int.reduceSub,Int.reduceMul,q1,q2]);try rfl) ?_)
   refine fD bW dm hsy ⟨.int .i64 0,⟨0,rfl,by omega,by omega⟩,rfl⟩ ?_
   rintro _ ⟨b1,rfl,hb1,hb2⟩ -
   refine ⟨cO,_,_,_,_,_,gY,(by decide),bT,?_⟩
   repeat (first|refine ah ?_|refine af ?_|refine bf ?_|refine ae ?_|refine dH ?_|refine mG (by rfl) (by rfl) (by omega) JY ?_|refine aF ?_|refine dw ?_|refine bP ?_|refine gz ?_|refine dB ?_)
   exact bZ [0,2,3,4,6,7] (al++[⟨(x:Int).tmod (1+(n:Int)),a1,b1,(y:Int).tmod (1+(n:Int))⟩]) (by rw [hsn];omega) (by rw [hsn];omega) (by rw [hsn];rfl)
  ·obtain rfl:al.length=m:=by omega
   refine bF 1 [2,4,6,7] ⟨[(2,.pref 0 [] 0),(4,.ptr (stripL [.osl 1 (n+1) (HL.bools fb),.osl 4 al.length (recs aC al)]) 0),(6,.int .i64 al.length),(7,.int .i64 al.length)],[(0,.optr [.nils,.nils])],1⟩ rfl ?_
   rw [show stripL [.osl 1 (n+1) (HL.bools fb),.osl 4 al.length (recs aC al)]=[.sl (n+1) (HL.bools fb),.sl al.length (recs aC al)] by simp [stripL,HV.strip,HL.bools_strip,jg]]
   repeat (first|refine ah ?_|refine af ?_|refine ay ?_|refine bD (by rfl) ?_|refine ax ?_|refine au ?_|refine ae ?_|refine bz ?_|refine dw ?_)
   refine az ?_
   exact ⟨_,_,rfl,rfl,fb,al,by rw [fK,gX,hfn];rfl,by omega,by omega,by omega⟩
end Go.Proofs.Ytlbdmpjnmfmnfaa
end
