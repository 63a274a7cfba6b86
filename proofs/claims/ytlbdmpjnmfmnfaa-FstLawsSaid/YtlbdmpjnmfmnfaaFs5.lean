import Derived.Test.YtlbdmpjnmfmnfaaFs2
import Derived.Test.YtlbdmpjnmfmnfaaFsQ
set_option linter.unusedSimpArgs false
set_option linter.unusedVariables false
namespace Go.Proofs.Ytlbdmpjnmfmnfaa
open Go.RowKit Go.HL Go.FS
theorem OO (l:List Int) (m:Nat) (hl:l.length<=9223372036854775807) (hm:m<=1000) (hr:∀k,k<l.length -> -9223372036854775808<=l.getD k 0/\l.getD k 0<=9223372036854775807):HT Try.prog 14 [I l,.int .i64 m] (fun r=>∃u:List Int,r=.osl 1 u.length (HL.ints u)/\u.length<=m):=by
 refine HT.of rfl aei (Nat.le_of_ble_eq_true rfl) ?_
 unfold c14
 simp only [I,aY,Nat.reduceAdd]
 repeat (first|refine ah ?_|refine af ?_|refine ak ?_|refine ae ?_|refine aB ?_|refine bU ?_)
 refine cu [0,1,5,6] (fun u:List Int=>u.length<=m/\u.length<=l.length)
  (fun u=>⟨[(0,.sl l.length (HL.ints l)),(1,.int .i64 m),(5,.ref 0 [] 1 0 u.length),(6,.int .i64 u.length)],[(0,.osl 1 u.length (HL.ints u))],1⟩)
  (fun u=>m - u.length) [] ⟨by simp,by simp⟩ rfl ?_
 rintro u ⟨h1,h2⟩
 by_cases c1:u.length<l.length
 ·by_cases c2:u.length<m
  ·have hh:=hr u.length c1
   have hsn:∀x:Int,(u++[x]).length=u.length+1:=by simp
   repeat (first|refine ah ?_|refine aK ?_|refine aU ?_|refine bZ ?_|refine af ?_|refine az ?_|refine aS ?_|refine aQ ?_|refine ax ?_|refine ak ?_|refine ae ?_|refine aB ?_|refine aF ?_)
   refine bY bz bW (Ad (l.getD u.length 0) 3 (by omega) (by omega) hh.1 hh.2) ?_
   rintro _ ⟨y,rfl,hy⟩
   refine ⟨bG,_,_,_,_,_,fU,(by decide),bu,?_⟩
   repeat (first|refine ah ?_|refine af ?_|refine bH ?_|refine ae ?_|refine fK ?_|refine bQ ?_|refine gV ?_)
   exact dB [0,1,5,6] (u++[(y:Int)]) ⟨by rw [hsn];omega,by rw [hsn];omega⟩ (by rw [hsn];omega) (by rw [hsn];rfl)
  ·repeat (first|refine ah ?_|refine aK ?_|refine af ?_|refine az ?_|refine aS ?_|refine aQ ?_|refine bK (by rfl) ?_|refine au ?_|refine ak ?_|refine ae ?_)
   refine ay ?_
   exact ⟨u,rfl,h1⟩
 ·repeat (first|refine ah ?_|refine dH ?_|refine af ?_|refine az ?_|refine aO ?_|refine aQ ?_|refine bK (by rfl) ?_|refine au ?_|refine ak ?_|refine ae ?_)
  refine ay ?_
  exact ⟨u,rfl,h1⟩
end Go.Proofs.Ytlbdmpjnmfmnfaa
