import Derived.Test.YtlbdmpjnmfmnfaaFs2
import Derived.Test.YtlbdmpjnmfmnfaaHlFi
set_option linter.unusedSimpArgs false
set_option linter.unusedVariables false
namespace Go.Proofs.Ytlbdmpjnmfmnfaa
open Go.RowKit Go.HL Go.FS
theorem Fq (l:List Bool) (h:0<l.length) (h2:l.length<=100000000):HT Try.prog 67 [.sl l.length (HL.bools l)] (fun r=>r=.osl 1 l.length (HL.bools l)):=by
 refine HT.of rfl XF (Nat.le_of_ble_eq_true rfl) ?_
 unfold XQ
 simp only [aS,Nat.reduceAdd]
 repeat (first|refine ag ?_|refine af ?_|refine ak ?_|refine ah ?_|refine ae ?_|refine aF ?_|refine dR rfl (by rfl) dI ?_|refine bW ?_|refine gW ?_|refine IP (by rfl) (by omega) ?_)
 refine ax ?_
 rfl
def xw (a:A):A:=⟨a.f,a.o,a.i,a.t⟩
def Ac (fin:List Bool) (al:List A):List Bool×List A:=if okF fin al=true then (fin,al.map xw) else ([],[])
set_option maxHeartbeats 8000000 in
theorem tV (fin:List Bool) (al:List A) (hf:fin.length<=9223372036854775807) (ha:al.length<=9223372036854775807):HT Try.prog 23 [.agg (gQ fin al)] (fun r=>r=.agg (gQ (Ac fin al).1 (Ac fin al).2)):=by
 refine HT.ofC rfl Xj [2] rfl (Nat.le_of_ble_eq_true rfl) ?_
 unfold c23
 have hvd:=rq fin al hf ha
 simp only [aS,Nat.reduceAdd]
 simp only [gQ,jC] at hvd ⊢
 repeat (first|refine af ?_|refine ah ?_|refine ae ?_|refine gz ?_|refine fC ?_|refine bP dI ?_)
 refine bI bD cO (hvd) ?_
 rintro _ rfl
 by_cases hv:okF fin al=true
 ·have ht:Ac fin al=(fin,al.map xw):=if_pos hv
  rw [hv]
  refine ⟨bF,_,_,_,_,_,gq,(by decide),bC,?_⟩
  obtain ⟨h1,h2,h3⟩:=jZ hv
  repeat (first|refine aV ?_|refine af ?_|refine ak ?_|refine ah ?_|refine ae ?_|refine aF ?_|refine iY (by rfl) ?_|refine aJ ?_)
  refine bI bD cO (Fq fin (by omega) (by omega)) ?_
  rintro _ rfl
  refine ⟨bF,_,_,_,_,_,gq,(by decide),bC,?_⟩
  repeat (first|refine ag ?_|refine aV ?_|refine af ?_|refine bY (by rfl) ?_|refine ah ?_|refine ae ?_|refine aH ?_|refine aJ ?_|refine dZ ?_|refine bP dI ?_|refine cZ ?_)
  refine gV 144 [1,4] [2,3,15,16,17] (⟨[(2,.pref 0 [] 0),(3,.pref 1 [] 0),(15,.sl al.length (recs aC al)),(16,.int .i64 al.length),(17,.int .i64 0)],[(0,.optr [.nils,.nils]),(1,.optr [.osl 1 fin.length (HL.bools fin),.osl 4 0 []])],2⟩:St) rfl rfl ?_
  refine cu [2,3,15,16,17] (fun k:Nat=>k<=al.length)
   (fun k=>⟨[(2,.pref 0 [] 0),(3,.pref 1 [] 0),(15,.sl al.length (recs aC al)),(16,.int .i64 al.length),(17,.int .i64 k)],[(0,.optr [.nils,.nils]),(1,.optr [.osl 1 fin.length (HL.bools fin),.osl 4 k (recs aC ((al.take k).map xw))])],2⟩)
   (fun k=>al.length - k) 0 (by omega) rfl ?_
  intro k hk
  by_cases hkl:k<al.length
  ·have hst:(al.take (k+1)).map xw=(al.take k).map xw++[xw (al.getD k default)]:=by rw [dC hkl,List.map_append];rfl
   have hml:((al.take k).map xw).length=k:=by simp;omega
   generalize (al.take k).map xw=ml at hst hml
   repeat (first|refine ag ?_|refine aZ ?_|refine aV ?_|refine af ?_|refine az ?_|refine bu ?_|refine au ?_|refine ah ?_|refine ae ?_|refine aH ?_|refine fE ?_|refine aF ?_|refine aJ ?_|refine bG ?_|refine dG ?_|refine dZ ?_|refine bW ?_|refine bP dI ?_|refine gW ?_|refine cZ ?_)
   exact dm [2,3,15,16,17] (k+1) hkl (by omega) (by simp only [hst,xw];rfl)
  ·obtain rfl:k=al.length:=by omega
   rw [List.take_length]
   refine bT 1 [2,3,16,17] ⟨[(2,.pref 0 [] 0),(3,.ptr (stripL [.osl 1 fin.length (HL.bools fin),.osl 4 al.length (recs aC (al.map xw))]) 0),(16,.int .i64 al.length),(17,.int .i64 al.length)],[(0,.optr [.nils,.nils])],1⟩ rfl ?_
   rw [GG]
   repeat (first|refine af ?_|refine az ?_|refine bK (by rfl) ?_|refine ak ?_|refine ah ?_|refine ae ?_|refine bG ?_|refine dZ ?_)
   refine ax ?_
   exact ⟨_,_,rfl,rfl,by rw [ht];simp only [gQ,jC,List.length_map];rfl⟩
 ·have ht:Ac fin al=([],[]):=if_neg hv
  rw [show okF fin al=false by simpa using hv]
  refine ⟨bF,_,_,_,_,_,gq,(by decide),bC,?_⟩
  repeat (first|refine af ?_|refine au ?_|refine ah ?_|refine ae ?_|refine jK (by rfl) ?_|refine dZ ?_|refine cZ ?_)
  refine gV 16 [1,4] [2] (⟨[(2,.pref 0 [] 0)],[(0,.optr [.osl 1 0 [],.osl 4 0 []])],1⟩:St) rfl rfl ?_
  refine uy 0 [2] ⟨[(2,.pref 0 [] 0)],[(0,.optr [.sl 0 [],.sl 0 []])],1⟩ rfl rfl ?_
  refine ax ?_
  exact ⟨_,_,rfl,rfl,by rw [ht];rfl⟩
end Go.Proofs.Ytlbdmpjnmfmnfaa
