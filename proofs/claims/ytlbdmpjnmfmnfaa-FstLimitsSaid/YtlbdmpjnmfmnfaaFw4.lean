import Derived.Test.YtlbdmpjnmfmnfaaHlFi
import Derived.Test.YtlbdmpjnmfmnfaaFsW
import Derived.Test.YtlbdmpjnmfmnfaaFt2
import Derived.Test.YtlbdmpjnmfmnfaaHlDn
import Derived.Test.YtlbdmpjnmfmnfaaFsA
import Derived.Test.YtlbdmpjnmfmnfaaFsC
section
set_option linter.unusedSimpArgs false
set_option linter.unusedVariables false
namespace Go.HL
open Go.RowKit
def ZF:HV->HV
 | .nils=>.sl 0 []
 | v=>v
def ZP:HV->HV
 | .nils=>.sl 0 []
 | .sl n cs=>.sl n (cs.map ZF)
 | v=>v
section
variable {F:Nat->Prop} {h:Hp} {R:HV->Value->Prop}
theorem BB {vs:List HV} {rvs:List Value} {fs:List Nat} (o:OW F h R vs rvs fs):OW F h R (vs.map ZF) rvs fs:=by
 induction o with
 | nil=>exact .nil
 | @leaf R v rv r rr fs a b c d e f g _ ih =>
  have:ZF v=v:=by cases v<;>simp [gp] at a<;>rfl
  rw [List.map_cons,this]
  exact .leaf a b c d e f g ih
 | int _ ih=>exact .int ih
 | bool _ ih=>exact .bool ih
 | str _ ih=>exact .str ih
 | nils _ ih=>exact .sl0 ih
 | nilm _ ih=>exact .nilm ih
 | rmap a b c d _ _ ih=>exact .rmap a b c d ih
 | omap a b c _ _ ih=>exact .omap a b c ih
 | oitr a _ ih=>exact .oitr a ih
 | nilp _ ih=>exact .nilp ih
 | nilf _ ih=>exact .nilf ih
 | dead _ ih=>exact .dead ih
 | sl0 _ ih=>exact .sl0 ih
 | sl a b c d e _ _ ih=>exact .sl a b c d e ih
 | osl0 _ ih=>exact .osl0 ih
 | osl a b c d e f g _ _ ih=>exact .osl a b c d e f g ih
 | ptr a b c d _ _ ih=>exact .ptr a b c d ih
 | optr a b _ _ ih=>exact .optr a b ih
 | agg a _ _ ih=>exact .agg a ih
 | tup a _ _ ih=>exact .tup a ih
 | fn a _ _ ih=>exact .fn a ih
theorem Ob {vs:List HV} {rvs:List Value} {fs:List Nat} (o:OW F h R vs rvs fs):OW F h R (vs.map ZP) rvs fs:=by
 induction o with
 | nil=>exact .nil
 | @leaf R v rv r rr fs a b c d e f g _ ih =>
  have:ZP v=v:=by cases v<;>simp [gp] at a<;>rfl
  rw [List.map_cons,this]
  exact .leaf a b c d e f g ih
 | int _ ih=>exact .int ih
 | bool _ ih=>exact .bool ih
 | str _ ih=>exact .str ih
 | nils _ ih=>exact .sl0 ih
 | nilm _ ih=>exact .nilm ih
 | rmap a b c d _ _ ih=>exact .rmap a b c d ih
 | omap a b c _ _ ih=>exact .omap a b c ih
 | oitr a _ ih=>exact .oitr a ih
 | nilp _ ih=>exact .nilp ih
 | nilf _ ih=>exact .nilf ih
 | dead _ ih=>exact .dead ih
 | sl0 _ ih=>exact .sl0 ih
 | sl a b c d e _ _ ih=>exact .sl a b (by rw [List.length_map];exact c) d (BB e) ih
 | osl0 _ ih=>exact .osl0 ih
 | osl a b c d e f g _ _ ih=>exact .osl a b c d e f g ih
 | ptr a b c d _ _ ih=>exact .ptr a b c d ih
 | optr a b _ _ ih=>exact .optr a b ih
 | agg a _ _ ih=>exact .agg a ih
 | tup a _ _ ih=>exact .tup a ih
 | fn a _ _ ih=>exact .fn a ih
end
theorem HT.arg {P:Program} {f:FuncId} {args args':List HV} {K:HV->Prop} (hw:∀ (F:Nat->Prop) (h:Hp) (rvs:List Value),OW F h dU args' rvs []->OW F h dU args rvs []) (h:HT P f args K):HT P f args' K :=
 ⟨h.1,fun w rargs F hF ho=>h.2 w rargs F hF (hw _ _ _ ho)⟩
end Go.HL
end
section
set_option linter.unusedSimpArgs false
set_option linter.unusedVariables false
namespace Go.HL
open Go.RowKit
theorem OO {P:Program} {C:CallSpec} {all r:List aB} {i:Nat} {k:List HI} {rs:List Nat} {K:HV->Prop} {sl sl' st st':List (Nat×HV)} {nx:Nat} {x:HX} {t:Nat} {v:HV} {cs0 cs:List HV} {us:List Upd} {sd:Prop} {sz fr:Nat} [ok:Ok C k] (hf:nx+stride*i=fr) (hv:ev sl x=v) (hcs:cellsOf v=cs0) (ht:fU (fun j=>aA j st) cs0=(cs,us,sd)) (hs:sd) (hz:cs.length=sz) (hu:kR sl st us=(sl',st'))
  (h:G P C all r (i+1) k rs K ((t,.pref fr [] 0)::sl') ((fr,.optr cs)::st') nx):G P C all (⟨some t,.newv sz x,none⟩::r) i k rs K sl st nx:=by
 subst hf
 refine gK ok.mono ok.plain (v:=.pref (nx+stride*i) [] 0) (us:=us++[.put (nx+stride*i) (.optr cs)]) (side:=sd/\cs.length=sz) rfl (by rw [HOp.map,hv]) ?_ ⟨hs,hz⟩ (by rw [sS,hu];rfl) h
 subst hcs
 simp only [az]
 rw [ht]
end Go.HL
end
section
set_option linter.unusedSimpArgs false
set_option linter.unusedVariables false
namespace Go.Proofs.Ytlbdmpjnmfmnfaa
open Go.RowKit Go.HL Go.FS
def cd (m:Nat) (x:Nd):Int:=x.1*((m:Int)+1)+x.2
section
variable {n:Nat} {w:List Int} {x y:Nd}
end
structure GB (n:Nat) (w:List Int) (G:List Nd) (gb:List Bool):Prop where
 len:gb.length=n*(w.length+1)
 at_:∀x,JA n w x->gb.getD (cd w.length x).toNat false=decide (x∈G)
theorem qx (l:List Bool):bg (HL.bools l)=[]:=by
 induction l with
 | nil=>rfl
 | cons x l ih=>simpa [HL.bools,bg,HV.deep] using ih
theorem kN (l:List A):bg (recs aC l)=[]:=uS (g:=aC) (fun _=>rfl) l
theorem o7 (fin:List Bool) (al:List A):stripL [.sl fin.length (HL.bools fin),.sl al.length (recs aC al)]=[.sl fin.length (HL.bools fin),.sl al.length (recs aC al)]:=by simp [stripL,HV.strip,HL.bools_strip,iR]
end Go.Proofs.Ytlbdmpjnmfmnfaa
end
section
set_option linter.unusedSimpArgs false
set_option linter.unusedVariables false
namespace Go.Proofs.Ytlbdmpjnmfmnfaa
open Go.RowKit Go.HL Go.FS
end Go.Proofs.Ytlbdmpjnmfmnfaa
end
section
set_option linter.unusedSimpArgs false
set_option linter.unusedVariables false
namespace Go.Proofs.Ytlbdmpjnmfmnfaa
open Go.RowKit Go.HL
theorem ve (n:Int) (m:Nat) (hm:0<m) (hm2:m<=1099511627776) (h1 : -9223372036854775808<=n) (h2:n<=9223372036854775807):HT Try.prog 16 [.int .i64 n,.int .i64 m] (fun r=>∃y:Nat,r=.int .i64 y/\y<m):=by
 refine HT.of rfl ZH (Nat.le_of_ble_eq_true rfl) ?_
 unfold c16
 simp only [aY,Nat.reduceAdd]
 by_cases h0:n<0
 ·obtain ⟨x,hx⟩:∃x:Nat,0 - (n+1)=x:=⟨(-(n+1)).toNat,by omega⟩
  have ht:(x:Int).tmod m=((x % m:Nat):Int):=(Int.ofNat_tmod x m).symm
  have hlt:=Nat.mod_lt x hm
  repeat (first|refine ah ?_|refine af ?_|refine aF ?_|refine kF (by rfl) (by rfl) (by (try simp (disch:=omega) only [go_sem,Int.reduceAdd,Int.reduceSub,Int.reduceMul,hx,ht]);try rfl) ?_|refine ax ?_|refine ak ?_|refine ae ?_|refine KG (by rfl) (by rfl) (by omega) (by (try simp (disch:=omega) only [go_sem,Int.reduceAdd,Int.reduceSub,Int.reduceMul,hx,ht]);try rfl) ?_|refine Xk (by rfl) (by (try simp (disch:=omega) only [go_sem,Int.reduceAdd,Int.reduceSub,Int.reduceMul,hx,ht]);try rfl) ?_)
  refine ay ?_
  exact ⟨x % m,rfl,hlt⟩
 ·obtain ⟨x,rfl⟩:∃x:Nat,n=x:=⟨n.toNat,by omega⟩
  have ht:(x:Int).tmod m=((x % m:Nat):Int):=(Int.ofNat_tmod x m).symm
  have hlt:=Nat.mod_lt x hm
  repeat (first|refine ah ?_|refine af ?_|refine aF ?_|refine au ?_|refine ak ?_|refine ae ?_|refine aI ?_|refine KG (by rfl) (by rfl) (by omega) (by (try simp (disch:=omega) only [go_sem,Int.reduceAdd,Int.reduceSub,Int.reduceMul,ht]);try rfl) ?_)
  refine ay ?_
  exact ⟨x % m,rfl,hlt⟩
end Go.Proofs.Ytlbdmpjnmfmnfaa
end
section
set_option linter.unusedSimpArgs false
set_option linter.unusedVariables false
namespace Go.Proofs.Ytlbdmpjnmfmnfaa
open Go.RowKit Go.HL Go.FS
end Go.Proofs.Ytlbdmpjnmfmnfaa
end
section
set_option linter.unusedSimpArgs false
set_option linter.unusedVariables false
namespace Go.Proofs.Ytlbdmpjnmfmnfaa
open Go.RowKit Go.HL Go.FS
theorem qj {α:Type} [Inhabited α] {g:α->List HV} {k:Nat} (r:Rec g k) {v:HV} {x:α}:∀ (l:List α) {i j:Nat},i<l.length->j<k->(g (l.getD i default)).set j v=g x->(recs g l).set (i*k+j) v=recs g (l.set i x)
 | [],i,j,h,_,_=>by simp at h
 | a::l,0,j,_,hj,he=>by
  have e:recs g (a::l)=g a++recs g l:=rfl
  rw [e,Nat.zero_mul,Nat.zero_add,List.set_append_left _ _ (by rw [r.len];exact hj)]
  simp only [List.getD_cons_zero] at he
  rw [he];rfl
 | a::l,i+1,j,h,hj,he=>by
  have e:recs g (a::l)=g a++recs g l:=rfl
  have hl:=r.len a
  rw [e,List.set_append_right _ _ (by rw [hl,Nat.add_mul,Nat.one_mul];omega),hl,show (i+1)*k+j - k=i*k+j by rw [Nat.add_mul,Nat.one_mul];omega,qj r l (by simpa using h) hj (by simpa using he)]
  rfl
theorem H9 (l:List A) {i:Nat} (v:Int) (h:i<l.length):(recs aC l).set (i*4) (.int .i64 v)=recs aC (l.set i { l.getD i default with f:=v }):=qj aR (j:=0) l h (by omega) rfl
theorem IQ (l:List A) {i:Nat} (v:Int) (h:i<l.length):(recs aC l).set (i*4+1) (.int .i64 v)=recs aC (l.set i { l.getD i default with i:=v }):=qj aR l h (by omega) rfl
theorem IZ (l:List A) {i:Nat} (v:Int) (h:i<l.length):(recs aC l).set (i*4+2) (.int .i64 v)=recs aC (l.set i { l.getD i default with o:=v }):=qj aR l h (by omega) rfl
theorem Io (l:List A) {i:Nat} (v:Int) (h:i<l.length):(recs aC l).set (i*4+3) (.int .i64 v)=recs aC (l.set i { l.getD i default with t:=v }):=qj aR l h (by omega) rfl
attribute [go_sem] H9 IQ IZ Io
theorem kJ (F:List Bool) (X:List A) (n m:Nat):stripL [.osl 1 n (HL.bools F),.osl 4 m (recs aC X)]=[.sl n (HL.bools F),.sl m (recs aC X)]:=by simp [stripL,HV.strip,HL.bools_strip,iR]
end Go.Proofs.Ytlbdmpjnmfmnfaa
end
section
set_option linter.unusedSimpArgs false
set_option linter.unusedVariables false
namespace Go.Proofs.Ytlbdmpjnmfmnfaa
set_option linter.unusedSimpArgs false
set_option linter.unnecessarySimpa false
open Go.RowKit Go.HL Go.FS
attribute [go_sem] List.length_replicate
def uV (n:Nat):List Bool:=(List.replicate n false).set 0 true
theorem kS {n:Nat}:(uV n).length=n:=by simp [uV]
set_option maxHeartbeats 8000000 in
theorem wP (n:Nat) (h1:1<=n) (h2:n<=5000):HT Try.prog 31 [.int .i64 n] (fun r=>r=.agg (iF (uV n) (l7 n n))):=by
 refine HT.ofC rfl ZQ [2] rfl (Nat.le_of_ble_eq_true rfl) ?_
 unfold c31
 simp only [aY,Nat.reduceAdd]
 have hnb:HL.bools (List.replicate n false)=List.replicate n (.bool false):=by simp [HL.bools]
 have hnt:(n:Int).toNat=n:=by omega
 repeat (first|refine ah ?_|refine af ?_|refine ak ?_|refine ae ?_|refine aK ?_|refine lK (by rfl) aJ aO jh lS (by rfl) nC (by rfl) mV (by (try simp (disch:=omega) only [go_sem,reduceIte,Nat.reduceEqDiff,Nat.reduceAdd,Nat.reduceMul,hnt]);try rfl) aQ (by (try simp (disch:=omega) only [go_sem,hnt]);try rfl) aO jk ?_|refine bI dZ ?_|refine mP dZ (by rfl) (by omega) aO aO ?_|refine bY ?_)
 refine fJ 64 [1,4] [0,2,3,4] (⟨[(0,.int .i64 n),(2,.pref 0 [] 0),(3,.pref 1 [] 0),(4,.int .i64 0)],[(0,.optr [.nils,.nils]),(1,.optr [.osl 1 n (HL.bools (List.replicate n false)),.osl 4 0 []])],2⟩:St) rfl rfl ?_
 refine dn [0,2,3,4] (fun k:Nat=>k<=n)
  (fun k=>⟨[(0,.int .i64 n),(2,.pref 0 [] 0),(3,.pref 1 [] 0),(4,.int .i64 k)],[(0,.optr [.nils,.nils]),(1,.optr [.osl 1 n (HL.bools (List.replicate n false)),.osl 4 k (recs aC (l7 n k))])],2⟩)
  (fun k=>n - k) 0 (by omega) rfl ?_
 intro k hk
 by_cases hkl:k<n
 ·have hst:=Ci (n:=n) (k:=k)
  have hwl:=lW (n:=n) (k:=k)
  have hrem:Int.tmod ((k:Int)+1) (n:Int)=(((k+1) % n:Nat):Int):=(Int.ofNat_tmod (k+1) n).symm
  repeat (first|refine ah ?_|refine af ?_|refine aF ?_|refine ax ?_|refine ak ?_|refine ae ?_|refine aK ?_|refine aI ?_)
  refine lg [0,4] [] bC bC (fun _ _ _=>False) (by simp [aA,HV.deep]) (by simp) ?_
  repeat (first|refine ah ?_|refine iG (by rfl) bQ (by (try simp (disch:=omega) only [go_sem,reduceIte,Nat.reduceEqDiff,Nat.reduceAdd,Nat.reduceMul,hrem]);try rfl) aQ (by (try simp (disch:=omega) only [go_sem,hrem]);try rfl) aJ ?_|refine af ?_|refine kF (by rfl) (by rfl) (by (try simp (disch:=omega) only [go_sem,Int.reduceAdd,Int.reduceSub,Int.reduceMul,hrem]);try rfl) ?_|refine ae ?_|refine gV ?_|refine KG (by rfl) (by rfl) (by omega) (by (try simp (disch:=omega) only [go_sem,Int.reduceAdd,Int.reduceSub,Int.reduceMul,hrem]);try rfl) ?_|refine aH ?_|refine lK (by rfl) aJ aO jh lS (by rfl) nC (by rfl) mV (by (try simp (disch:=omega) only [go_sem,reduceIte,Nat.reduceEqDiff,Nat.reduceAdd,Nat.reduceMul,hrem]);try rfl) aQ (by (try simp (disch:=omega) only [go_sem,hrem]);try rfl) aO jk ?_|refine cO ?_|refine lI dZ (by rfl) aJ sK (by (try simp (disch:=omega) only [go_sem,reduceIte,Nat.reduceEqDiff,Nat.reduceAdd,Nat.reduceMul,hrem]);try omega) bQ (by (try simp (disch:=omega) only [go_sem,reduceIte,Nat.reduceEqDiff,Nat.reduceAdd,Nat.reduceMul,hrem]);try rfl) dZ (by omega) iC aQ (by (try simp (disch:=omega) only [go_sem,reduceIte,Nat.reduceEqDiff,Nat.reduceAdd,Nat.reduceMul,hrem]);try rfl) aO ?_|refine bY ?_)
  exact dS [0,2,3,4] (k+1) hkl (by omega) (by simp only [hst,hwl];rfl)
 ·obtain rfl:k=n:=by omega
  have hlen:(List.replicate k false).length=k:=by simp
  repeat (first|refine ah ?_|refine af ?_|refine aF ?_|refine bZ (by rfl) ?_|refine au ?_|refine ak ?_|refine ae ?_)
  repeat (first|refine gQ ?_|refine aW ?_|refine af ?_|refine aH ?_|refine dG ?_)
  refine bU 1 [2,3] ⟨[(2,.pref 0 [] 0),(3,.ptr (stripL [.osl 1 k (HL.bools (uV k)),.osl 4 k (recs aC (l7 k k))]) 0)],[(0,.optr [.nils,.nils])],1⟩ rfl ?_
  rw [kJ]
  repeat (first|refine af ?_|refine ak ?_|refine ae ?_|refine bG ?_|refine dH ?_)
  refine ay ?_
  exact ⟨_,_,rfl,rfl,by simp only [iF,jJ,kS,lW];rfl⟩
end Go.Proofs.Ytlbdmpjnmfmnfaa
end
