import Derived.Test.YtlbdmpjnmfmnfaaFt2
import Derived.Test.YtlbdmpjnmfmnfaaFsO
import Derived.Test.YtlbdmpjnmfmnfaaHlDn
section
set_option linter.unusedSimpArgs false
set_option linter.unusedVariables false
namespace Go.Proofs.Ytlbdmpjnmfmnfaa
open Go.RowKit Go.HL
theorem uk (n:Int) (m:Nat) (hm:0<m) (hm2:m<=1099511627776) (h1 : -9223372036854775808<=n) (h2:n<=9223372036854775807):HT Try.prog 16 [.int .i64 n,.int .i64 m] (fun r=>∃y:Nat,r=.int .i64 y/\y<m):=by
 refine HT.of rfl ZG (Nat.le_of_ble_eq_true rfl) ?_
 unfold c16
 simp only [aW,Nat.reduceAdd]
 by_cases h0:n<0
 ·obtain ⟨x,hx⟩:∃x:Nat,0 - (n+1)=x:=⟨(-(n+1)).toNat,by omega⟩
  have ht:(x:Int).tmod m=((x % m:Nat):Int):=(Int.ofNat_tmod x m).symm
  have hlt:=Nat.mod_lt x hm
  repeat (first|refine ah ?_|refine af ?_|refine az ?_|refine gI (by rfl) (by rfl) (by (try simp (disch:=omega) only [go_sem,Int.reduceAdd,Int.reduceSub,Int.reduceMul,hx,ht]);try rfl) ?_|refine ak ?_|refine au ?_|refine ae ?_|refine Bj (by rfl) (by rfl) (by omega) (by (try simp (disch:=omega) only [go_sem,Int.reduceAdd,Int.reduceSub,Int.reduceMul,hx,ht]);try rfl) ?_|refine Va (by rfl) (by (try simp (disch:=omega) only [go_sem,Int.reduceAdd,Int.reduceSub,Int.reduceMul,hx,ht]);try rfl) ?_)
  refine ay ?_
  exact ⟨x % m,rfl,hlt⟩
 ·obtain ⟨x,rfl⟩:∃x:Nat,n=x:=⟨n.toNat,by omega⟩
  have ht:(x:Int).tmod m=((x % m:Nat):Int):=(Int.ofNat_tmod x m).symm
  have hlt:=Nat.mod_lt x hm
  repeat (first|refine ah ?_|refine af ?_|refine az ?_|refine ax ?_|refine au ?_|refine ae ?_|refine aF ?_|refine Bj (by rfl) (by rfl) (by omega) (by (try simp (disch:=omega) only [go_sem,Int.reduceAdd,Int.reduceSub,Int.reduceMul,ht]);try rfl) ?_)
  refine ay ?_
  exact ⟨x % m,rfl,hlt⟩
theorem Bz (l:List Int) (i:Nat) (m:Nat) (hm:0<m) (hm2:m<=1099511627776) (hi:i<=1000000) (hl:l.length<=9223372036854775807) (hr:∀k,k<l.length -> -9223372036854775808<=l.getD k 0/\l.getD k 0<=9223372036854775807):HT Try.prog 50 [I l,.int .i64 i,.int .i64 m] (fun r=>∃y:Nat,r=.int .i64 y/\y<m):=by
 refine HT.of rfl aao (Nat.le_of_ble_eq_true rfl) ?_
 unfold c50
 simp only [I,aW,Nat.reduceAdd]
 by_cases hil:i<l.length
 ·have:=hr i hil
  repeat (first|refine ah ?_|refine aN ?_|refine aO ?_|refine di ?_|refine af ?_|refine az ?_|refine aP ?_|refine aI ?_|refine ax ?_|refine au ?_|refine ae ?_|refine aF ?_|refine dP ?_)
  refine dG bK dh (uk (l.getD i 0) m hm hm2 this.1 this.2) ?_
  rintro _ ⟨y,rfl,hy⟩
  refine ⟨bP,_,_,_,_,_,gU,(by decide),bJ,?_⟩
  repeat (first|refine ah ?_|refine af ?_)
  refine ay ?_
  exact ⟨y,rfl,hy⟩
 ·repeat (first|refine ah ?_|refine aN ?_|refine af ?_|refine az ?_|refine aP ?_|refine aI ?_|refine ak ?_|refine au ?_|refine ae ?_|refine dP ?_)
  refine ay ?_
  exact ⟨0,rfl,hm⟩
end Go.Proofs.Ytlbdmpjnmfmnfaa
end
section
set_option linter.unusedSimpArgs false
set_option linter.unusedVariables false
namespace Go.Proofs.Ytlbdmpjnmfmnfaa
open Go.RowKit Go.HL Go.FS
theorem xh (x:Nat) (h:x<=1048576):HT Try.prog 51 [.int .i64 x] (fun r=>∃y:Int,r=.int .i64 y /\ -1<=y/\y<=2):=by
 refine HT.of rfl ZC (Nat.le_of_ble_eq_true rfl) ?_
 unfold c51
 simp only [aW,Nat.reduceAdd]
 have h7:((x:Int).tmod 7).tmod 4=((x % 7 % 4:Nat):Int):=by
  have e:(x:Int).tmod 7=(x:Int) % 7:=Int.tmod_eq_emod_of_nonneg (by omega)
  rw [e,Int.tmod_eq_emod_of_nonneg (by omega)];omega
 have h8:x % 7 % 4<4:=Nat.mod_lt _ (by decide)
 generalize x % 7 % 4=y at h7 h8
 repeat (first|refine ah ?_|refine af ?_|refine au ?_|refine ae ?_|refine AU (by rfl) (by rfl) (by (try simp (disch:=omega) only [go_sem,Int.reduceAdd,Int.reduceSub,Int.reduceMul,h7]);try rfl) ?_|refine Bj (by rfl) (by rfl) (by omega) (by (try simp (disch:=omega) only [go_sem,Int.reduceAdd,Int.reduceSub,Int.reduceMul,h7]);try rfl) ?_)
 refine ay ?_
 exact ⟨_,rfl,by omega,by omega⟩
set_option maxHeartbeats 8000000 in
theorem TQ (l:List Int) (hl:l.length<=9223372036854775807) (hr:∀k,k<l.length -> -9223372036854775808<=l.getD k 0/\l.getD k 0<=9223372036854775807):HT Try.prog 11 [I l] (fun r=>∃fin al,r=.agg (fA fin al)/\1<=fin.length/\fin.length<=5/\al.length<=9):=by
 refine HT.ofC rfl ZI [2] rfl (Nat.le_of_ble_eq_true rfl) ?_
 unfold c11
 simp only [I,aW,Nat.reduceAdd]
 repeat (first|refine ah ?_|refine af ?_|refine au ?_|refine ae ?_|refine bG dS ?_)
 refine dG bK dh (Bz l 0 5 (by omega) (by omega) (by omega) hl hr) ?_
 rintro _ ⟨n,rfl,hn⟩
 refine ⟨bP,_,_,_,_,_,gU,(by decide),bJ,?_⟩
 repeat (first|refine ah ?_|refine af ?_|refine bY ?_|refine au ?_|refine ae ?_|refine aA ?_|refine cu ?_|refine bG dS ?_|refine bZ ?_)
 refine fF 96 [1,4] [0,2,3,4,5] (⟨[(0,.sl l.length (HL.ints l)),(2,.pref 0 [] 0),(3,.int .i64 (1+(n:Int))),(4,.pref 1 [] 0),(5,.int .i64 0)],[(0,.optr [.nils,.nils]),(1,.optr [.osl 1 0 [],.osl 4 0 []])],2⟩:St) rfl rfl ?_
 refine bW [0,2,3,4,5] (fun fb:List Bool=>fb.length<=n+1)
  (fun fb=>⟨[(0,.sl l.length (HL.ints l)),(2,.pref 0 [] 0),(3,.int .i64 (1+(n:Int))),(4,.pref 1 [] 0),(5,.int .i64 fb.length)],[(0,.optr [.nils,.nils]),(1,.optr [.osl 1 fb.length (HL.bools fb),.osl 4 0 []])],2⟩) (fun fb=>n+1 - fb.length) [] (by simp) rfl ?_
 intro fb hfb
 by_cases hk:fb.length<n+1
 ·have hat:=Bz l (1+fb.length) 3 (by omega) (by omega) (by omega) hl hr
  rw [show ((1+fb.length:Nat):Int)=1+(fb.length:Int) by omega] at hat
  have hsn:∀b:Bool,(fb++[b]).length=fb.length+1:=by simp
  repeat (first|refine ah ?_|refine af ?_|refine az ?_|refine ak ?_|refine au ?_|refine ae ?_|refine aA ?_|refine aF ?_)
  refine ji [] [] aY aY (fun _ _ r=>∃y:Nat,r=.int .i64 y/\y<3) (by simp) (by simp) ?_ (by rintro _ _ _ ⟨y,rfl,-⟩ fr;exact jr)
  repeat (first|refine ah ?_|refine aU ?_|refine bY ?_|refine aB ?_)
  refine dK bK dh hat ⟨.int .i64 (0:Nat),⟨0,rfl,by omega⟩,rfl⟩ ?_
  rintro _ ⟨x,rfl,hx3⟩ -
  refine ⟨bP,_,_,_,_,_,gU,(by decide),bJ,?_⟩
  by_cases hx0:x=0
  ·subst hx0
   repeat (first|refine ah ?_|refine af ?_|refine dB ?_|refine bY ?_|refine ae ?_|refine dL ?_|refine aB ?_|refine cu ?_|refine bU ?_|refine gG ?_)
   exact dm [0,2,3,4,5] (fb++[true]) (by rw [hsn];omega) (by rw [hsn];omega) (by rw [hsn];rfl)
  ·repeat (first|refine ah ?_|refine af ?_|refine dB ?_|refine bY ?_|refine ae ?_|refine dL ?_|refine aB ?_|refine cu ?_|refine bU ?_|refine gG ?_)
   exact dm [0,2,3,4,5] (fb++[false]) (by rw [hsn];omega) (by rw [hsn];omega) (by rw [hsn];rfl)
 ·have hfn:fb.length=n+1:=by omega
  rw [hfn]
  repeat (first|refine ah ?_|refine af ?_|refine az ?_|refine bQ (by rfl) ?_|refine ax ?_|refine au ?_|refine ae ?_)
  refine dG bK dh (Bz l 6 10 (by omega) (by omega) (by omega) hl hr) ?_
  rintro _ ⟨m,rfl,hm⟩
  refine ⟨bP,_,_,_,_,_,gU,(by decide),bJ,?_⟩
  repeat (first|refine ah ?_|refine af ?_|refine au ?_|refine ae ?_|refine aA ?_)
  refine bW [0,2,3,4,6,7] (fun al:List A=>al.length<=m)
   (fun al=>⟨[(0,.sl l.length (HL.ints l)),(2,.pref 0 [] 0),(3,.int .i64 (1+(n:Int))),(4,.pref 1 [] 0),(6,.int .i64 m),(7,.int .i64 al.length)],[(0,.optr [.nils,.nils]),(1,.optr [.osl 1 (n+1) (HL.bools fb),.osl 4 al.length (recs aC al)])],2⟩) (fun al=>m - al.length) [] (by simp) rfl ?_
  intro al hal
  by_cases hk2:al.length<m
  ·have hat1:=Bz l (7+2*al.length) 1048576 (by omega) (by omega) (by omega) hl hr
   have hat2:=Bz l (8+2*al.length) 1048576 (by omega) (by omega) (by omega) hl hr
   rw [show ((7+2*al.length:Nat):Int)=7+2*(al.length:Int) by omega] at hat1
   rw [show ((8+2*al.length:Nat):Int)=8+2*(al.length:Int) by omega] at hat2
   have hsn:∀x:A,(al++[x]).length=al.length+1:=by simp
   repeat (first|refine ah ?_|refine af ?_|refine az ?_|refine bY ?_|refine ak ?_|refine au ?_|refine ae ?_|refine aA ?_|refine aF ?_|refine O0 (by rfl) (by rfl) JM ?_)
   refine dG bK dh (hat1) ?_
   rintro _ ⟨x,rfl,hx⟩
   refine ⟨bP,_,_,_,_,_,gU,(by decide),bJ,?_⟩
   repeat (first|refine ah ?_|refine af ?_|refine bY ?_|refine au ?_|refine ae ?_|refine O0 (by rfl) (by rfl) JM ?_)
   refine dG bK dh (hat2) ?_
   rintro _ ⟨y,rfl,hy⟩
   refine ⟨bP,_,_,_,_,_,gU,(by decide),bJ,?_⟩
   have hsx:=xh (x / 5) (by omega)
   have hsy:=xh (y / 5) (by omega)
   have q1:(x:Int).tdiv 5=((x / 5:Nat):Int):=by rw [Int.tdiv_eq_ediv_of_nonneg (by omega)];omega
   have q2:(y:Int).tdiv 5=((y / 5:Nat):Int):=by rw [Int.tdiv_eq_ediv_of_nonneg (by omega)];omega
   repeat (first|refine ah ?_|refine af ?_)
   refine ji [3,8,9] [] aY aY (fun _ _ r=>∃y:Int,r=.int .i64 y /\ -1<=y/\y<=2) (by simp [aT,HV.deep]) (by simp) ?_ (by rintro _ _ _ ⟨y,rfl,-⟩ fr;exact jr)
   repeat (first|refine ah ?_|refine dU (by rfl) bn (by (try simp (disch:=omega) only [go_sem,reduceIte,Nat.reduceEqDiff,Nat.reduceAdd,Nat.reduceMul,q1,q2]);try rfl) aG (by (try simp (disch:=omega) only [go_sem,q1,q2]);try rfl) aJ ?_|refine O4 (by rfl) (by rfl) (by omega) (by (try simp (disch:=omega) only [go_sem,Int.reduceAdd,Int.reduceSub,Int.reduceMul,q1,q2]);try rfl) ?_|refine Bj (by rfl) (by rfl) (by omega) (by (try simp (disch:=omega) only [go_sem,Int.reduceAdd,Int.reduceSub,Int.reduceMul,q1,q2]);try rfl) ?_|refine aB ?_)
   refine dK bK dh hsx ⟨.int .i64 0,⟨0,rfl,by omega,by omega⟩,rfl⟩ ?_
   rintro _ ⟨a1,rfl,ha1,ha2⟩ -
   refine ⟨bP,_,_,_,_,_,gU,(by decide),bJ,?_⟩
   repeat (first|refine ah ?_|refine O4 (by rfl) (by rfl) (by omega) (by (try simp (disch:=omega) only [go_sem,Int.reduceAdd,Int.reduceSub,Int.reduceMul,q1,q2]);try rfl) ?_)
   refine dK bK dh hsy ⟨.int .i64 0,⟨0,rfl,by omega,by omega⟩,rfl⟩ ?_
   rintro _ ⟨b1,rfl,hb1,hb2⟩ -
   refine ⟨bP,_,_,_,_,_,gU,(by decide),bJ,?_⟩
   repeat (first|refine ah ?_|refine af ?_|refine bY ?_|refine ae ?_|refine dL ?_|refine Bj (by rfl) (by rfl) (by omega) JM ?_|refine aB ?_|refine cu ?_|refine bU ?_|refine gG ?_|refine bZ ?_)
   exact dm [0,2,3,4,6,7] (al++[⟨(x:Int).tmod (1+(n:Int)),a1,b1,(y:Int).tmod (1+(n:Int))⟩]) (by rw [hsn];omega) (by rw [hsn];omega) (by rw [hsn];rfl)
  ·obtain rfl:al.length=m:=by omega
   refine bg 1 [2,4,6,7] ⟨[(2,.pref 0 [] 0),(4,.ptr (stripL [.osl 1 (n+1) (HL.bools fb),.osl 4 al.length (recs aC al)]) 0),(6,.int .i64 al.length),(7,.int .i64 al.length)],[(0,.optr [.nils,.nils])],1⟩ rfl ?_
   rw [show stripL [.osl 1 (n+1) (HL.bools fb),.osl 4 al.length (recs aC al)]=[.sl (n+1) (HL.bools fb),.sl al.length (recs aC al)] by simp [stripL,HV.strip,HL.bools_strip,jg]]
   repeat (first|refine ah ?_|refine af ?_|refine az ?_|refine bQ (by rfl) ?_|refine ax ?_|refine au ?_|refine ae ?_|refine aZ ?_|refine cu ?_)
   refine ay ?_
   exact ⟨_,_,rfl,rfl,fb,al,by rw [fA,iw,hfn];rfl,by omega,by omega,by omega⟩
end Go.Proofs.Ytlbdmpjnmfmnfaa
end
