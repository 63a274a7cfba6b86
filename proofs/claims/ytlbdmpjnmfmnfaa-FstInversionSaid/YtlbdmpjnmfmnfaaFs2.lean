import Derived.Test.YtlbdmpjnmfmnfaaFt2
import Derived.Test.YtlbdmpjnmfmnfaaFsO
import Derived.Test.YtlbdmpjnmfmnfaaHlDn
section
set_option linter.unusedSimpArgs false
set_option linter.unusedVariables false
namespace Go.Proofs.Ytlbdmpjnmfmnfaa
open Go.RowKit Go.HL
theorem yx (n:Int) (m:Nat) (hm:0<m) (hm2:m<=1099511627776) (h1 : -9223372036854775808<=n) (h2:n<=9223372036854775807):HT Try.prog 16 [.int .i64 n,.int .i64 m] (fun r=>∃y:Nat,r=.int .i64 y/\y<m):=by
 refine HT.of rfl XC (Nat.le_of_ble_eq_true rfl) ?_
 unfold c16
 simp only [aS,Nat.reduceAdd]
 by_cases h0:n<0
 ·obtain ⟨x,hx⟩:∃x:Nat,0 - (n+1)=x:=⟨(-(n+1)).toNat,by omega⟩
  have ht:(x:Int).tmod m=((x % m:Nat):Int):=(Int.ofNat_tmod x m).symm
  have hlt:=Nat.mod_lt x hm
  repeat (first|refine ag ?_|refine af ?_|refine az ?_|refine jI (by rfl) (by rfl) (by (try simp (disch:=omega) only [go_sem,Int.reduceAdd,Int.reduceSub,Int.reduceMul,hx,ht]);try rfl) ?_|refine au ?_|refine ah ?_|refine ae ?_|refine zT (by rfl) (by rfl) (by omega) (by (try simp (disch:=omega) only [go_sem,Int.reduceAdd,Int.reduceSub,Int.reduceMul,hx,ht]);try rfl) ?_|refine TY (by rfl) (by (try simp (disch:=omega) only [go_sem,Int.reduceAdd,Int.reduceSub,Int.reduceMul,hx,ht]);try rfl) ?_)
  refine ax ?_
  exact ⟨x % m,rfl,hlt⟩
 ·obtain ⟨x,rfl⟩:∃x:Nat,n=x:=⟨n.toNat,by omega⟩
  have ht:(x:Int).tmod m=((x % m:Nat):Int):=(Int.ofNat_tmod x m).symm
  have hlt:=Nat.mod_lt x hm
  repeat (first|refine ag ?_|refine af ?_|refine az ?_|refine ak ?_|refine ah ?_|refine ae ?_|refine aF ?_|refine zT (by rfl) (by rfl) (by omega) (by (try simp (disch:=omega) only [go_sem,Int.reduceAdd,Int.reduceSub,Int.reduceMul,ht]);try rfl) ?_)
  refine ax ?_
  exact ⟨x % m,rfl,hlt⟩
theorem Bv (l:List Int) (i:Nat) (m:Nat) (hm:0<m) (hm2:m<=1099511627776) (hi:i<=1000000) (hl:l.length<=9223372036854775807) (hr:∀k,k<l.length -> -9223372036854775808<=l.getD k 0/\l.getD k 0<=9223372036854775807):HT Try.prog 50 [I l,.int .i64 i,.int .i64 m] (fun r=>∃y:Nat,r=.int .i64 y/\y<m):=by
 refine HT.of rfl WZ (Nat.le_of_ble_eq_true rfl) ?_
 unfold X7
 simp only [I,aS,Nat.reduceAdd]
 by_cases hil:i<l.length
 ·have:=hr i hil
  repeat (first|refine ag ?_|refine aK ?_|refine aZ ?_|refine dP ?_|refine af ?_|refine az ?_|refine aI ?_|refine bY (by rfl) ?_|refine ak ?_|refine ah ?_|refine ae ?_|refine aF ?_|refine mF (by rfl) (by rfl) lw ?_)
  refine bI bD cO (yx (l.getD i 0) m hm hm2 this.1 this.2) ?_
  rintro _ ⟨y,rfl,hy⟩
  refine ⟨bF,_,_,_,_,_,gq,(by decide),bC,?_⟩
  repeat (first|refine ag ?_|refine af ?_)
  refine ax ?_
  exact ⟨y,rfl,hy⟩
 ·repeat (first|refine ag ?_|refine aK ?_|refine af ?_|refine az ?_|refine aI ?_|refine bY (by rfl) ?_|refine au ?_|refine ah ?_|refine ae ?_|refine mF (by rfl) (by rfl) lw ?_)
  refine ax ?_
  exact ⟨0,rfl,hm⟩
end Go.Proofs.Ytlbdmpjnmfmnfaa
end
section
set_option linter.unusedSimpArgs false
set_option linter.unusedVariables false
namespace Go.Proofs.Ytlbdmpjnmfmnfaa
open Go.RowKit Go.HL Go.FS
theorem wJ (x:Nat) (h:x<=1048576):HT Try.prog 51 [.int .i64 x] (fun r=>∃y:Int,r=.int .i64 y /\ -1<=y/\y<=2):=by
 refine HT.of rfl WN (Nat.le_of_ble_eq_true rfl) ?_
 unfold c51
 simp only [aS,Nat.reduceAdd]
 have h7:((x:Int).tmod 7).tmod 4=((x % 7 % 4:Nat):Int):=by
  have e:(x:Int).tmod 7=(x:Int) % 7:=Int.tmod_eq_emod_of_nonneg (by omega)
  rw [e,Int.tmod_eq_emod_of_nonneg (by omega)];omega
 have h8:x % 7 % 4<4:=Nat.mod_lt _ (by decide)
 generalize x % 7 % 4=y at h7 h8
 repeat (first|refine ag ?_|refine af ?_|refine ah ?_|refine ae ?_|refine Fg (by rfl) (by rfl) (by (try simp (disch:=omega) only [go_sem,Int.reduceAdd,Int.reduceSub,Int.reduceMul,h7]);try rfl) ?_|refine zT (by rfl) (by rfl) (by omega) (by (try simp (disch:=omega) only [go_sem,Int.reduceAdd,Int.reduceSub,Int.reduceMul,h7]);try rfl) ?_)
 refine ax ?_
 exact ⟨_,rfl,by omega,by omega⟩
end Go.Proofs.Ytlbdmpjnmfmnfaa
end
section
set_option linter.unusedSimpArgs false
set_option linter.unusedVariables false
namespace Go.Proofs.Ytlbdmpjnmfmnfaa
open Go.RowKit Go.HL Go.FS
theorem oK {α:Type} [Inhabited α] {g:α->List HV} {k:Nat} (r:Rec g k) {v:HV} {x:α}:∀ (l:List α) {i j:Nat},i<l.length->j<k->(g (l.getD i default)).set j v=g x->(recs g l).set (i*k+j) v=recs g (l.set i x)
 | [],i,j,h,_,_=>by simp at h
 | a::l,0,j,_,hj,he=>by
  have e:recs g (a::l)=g a++recs g l:=rfl
  rw [e,Nat.zero_mul,Nat.zero_add,List.set_append_left _ _ (by rw [r.len];exact hj)]
  simp only [List.getD_cons_zero] at he
  rw [he];rfl
 | a::l,i+1,j,h,hj,he=>by
  have e:recs g (a::l)=g a++recs g l:=rfl
  have hl:=r.len a
  rw [e,List.set_append_right _ _ (by rw [hl,Nat.add_mul,Nat.one_mul];omega),hl,show (i+1)*k+j - k=i*k+j by rw [Nat.add_mul,Nat.one_mul];omega,oK r l (by simpa using h) hj (by simpa using he)]
  rfl
theorem G7 (l:List A) {i:Nat} (v:Int) (h:i<l.length):(recs aC l).set (i*4) (.int .i64 v)=recs aC (l.set i { l.getD i default with f:=v }):=oK aR (j:=0) l h (by omega) rfl
theorem Gu (l:List A) {i:Nat} (v:Int) (h:i<l.length):(recs aC l).set (i*4+1) (.int .i64 v)=recs aC (l.set i { l.getD i default with i:=v }):=oK aR l h (by omega) rfl
theorem FC (l:List A) {i:Nat} (v:Int) (h:i<l.length):(recs aC l).set (i*4+2) (.int .i64 v)=recs aC (l.set i { l.getD i default with o:=v }):=oK aR l h (by omega) rfl
theorem Gt (l:List A) {i:Nat} (v:Int) (h:i<l.length):(recs aC l).set (i*4+3) (.int .i64 v)=recs aC (l.set i { l.getD i default with t:=v }):=oK aR l h (by omega) rfl
attribute [go_sem] G7 Gu FC Gt
theorem GG (F:List Bool) (X:List A) (n m:Nat):stripL [.osl 1 n (HL.bools F),.osl 4 m (recs aC X)]=[.sl n (HL.bools F),.sl m (recs aC X)]:=by simp [stripL,HV.strip,HL.bools_strip,jS]
end Go.Proofs.Ytlbdmpjnmfmnfaa
end
