import Derived.Test.YtlbdmpjnmfmnfaaFsB
import Derived.Test.YtlbdmpjnmfmnfaaHlRo
set_option linter.unusedSimpArgs false
set_option linter.unusedVariables false
namespace Go.Proofs.Ytlbdmpjnmfmnfaa
open Go.RowKit Go.HL Go.FS
theorem dR {fin:List Bool} {al:List A} (h:okF fin al=true):1<=fin.length/\fin.length<=2048/\al.length<=8192:=by
 simp only [okF,Bool.and_eq_true,decide_eq_true_eq] at h;exact h.1
theorem dh {fin:List Bool} {al:List A} (h:okF fin al=true) {a:A} (ha:a∈al):0<=a.f/\a.f<fin.length/\0<=a.t/\a.t<fin.length /\ -1<=a.i/\a.i<64 /\ -1<=a.o/\a.o<64:=by
 simp only [okF,Bool.and_eq_true,List.all_eq_true] at h;exact okA_iff.1 (h.2 a ha)
theorem lC {l:List A} {k:Nat} (h:k<l.length):l.getD k default∈l:=by
 rw [List.getD_eq_getElem?_getD,List.getElem?_eq_getElem h];exact List.getElem_mem h
theorem dw {α:Type} [Inhabited α] {l:List α} {k:Nat} (h:k<l.length):l.take (k+1)=l.take k++[l.getD k default]:=by
 rw [List.take_add_one];simp [h]
set_option maxHeartbeats 4000000 in
theorem JJ (fin:List Bool) (al:List A) (hv:okF fin al=true):HT Try.prog 64 [.agg (iC fin al)] (fun r=>r=.osl 1 fin.length (gp (bT (·.f) fin.length al))):=by
 obtain ⟨h1,h2,h3⟩:=dR hv
 refine HT.of rfl ad8 (Nat.le_of_ble_eq_true rfl) ?_
 unfold c64
 simp only [aY,Nat.reduceAdd,iC,jX]
 repeat (first|refine ah ?_|refine aZ ?_|refine af ?_|refine aQ ?_|refine ak ?_|refine ae ?_|refine aB ?_|refine bU ?_|refine aI ?_|refine dU ?_|refine qU eH (by rfl) (by omega) aP aP ?_)
 rw [<- yE (·.f)]
 refine cu [1,3,11,12,13] (fun k:Nat=>k<=al.length)
  (fun k=>⟨[(1,.pref 0 [] 0),(3,.ref 1 [] 1 0 fin.length),(11,.sl al.length (recs aC al)),(12,.int .i64 al.length),(13,.int .i64 k)],[(0,.optr [.sl fin.length (HL.bools fin),.sl al.length (recs aC al)]),(1,.osl 1 fin.length (gp (bT (·.f) fin.length (al.take k))))],2⟩)
  (fun k=>al.length - k) 0 (by omega) rfl ?_
 intro k hk
 by_cases hkl:k<al.length
 ·have ha:=dh hv (lC hkl)
  have hlen:=iY (·.f) fin.length (al.take k)
  have hrow:((bT (·.f) fin.length (al.take k)).getD (al.getD k default).f.toNat []).length<=8192:=Nat.le_trans zN (by simp;omega)
  have hst:=xG (p:=(·.f)) (n:=fin.length) (l:=al.take k) (a:=al.getD k default) (j:=(al.getD k default).f.toNat) (by omega)
  rw [<- dw hkl] at hst
  have hro:=Bz (bT (·.f) fin.length (al.take k)) (al.getD k default).f.toNat ((bT (·.f) fin.length (al.take k)).getD (al.getD k default).f.toNat []++[al.getD k default]) .dead (n:=((bT (·.f) fin.length (al.take k)).getD (al.getD k default).f.toNat []).length+1) (by simp)
  rw [hst] at hro
  repeat (first|refine aU ?_|refine af ?_|refine az ?_|refine ax ?_|refine ak ?_|refine ae ?_|refine aB ?_|refine aF ?_|refine bn ?_|refine dK ?_|refine bP eH ?_)
  refine bg 50 [1,3,5,11,12,13] ⟨[(1,.pref 0 [] 0),(3,.ref 1 [] 1 0 fin.length),(5,.ptr (aC (al.getD k default)) 0),(11,.sl al.length (recs aC al)),(12,.int .i64 al.length),(13,.int .i64 k)],[(0,.optr [.sl fin.length (HL.bools fin),.sl al.length (recs aC al)]),(1,.osl 1 fin.length (gp (bT (·.f) fin.length (al.take k))))],2⟩ rfl ?_
  unfold Ur
  refine jP [5] [3] aT aT (fun _ _ _=>False) (by simp [aG,HV.deep,bF,aC]) (by simp [aG,HV.deep,bF]) ?_
  simp only [aC]
  repeat (first|refine ah ?_|refine gG ?_|refine jb (by rfl) aW (by (try simp (disch:=omega) only [go_sem,hro]);try rfl) ?_|refine gJ (by rfl) bV (by (try simp (disch:=omega) only [go_sem,reduceIte,Nat.reduceEqDiff,Nat.reduceAdd,Nat.reduceMul,hro]);try rfl) aW (by (try simp (disch:=omega) only [go_sem,hro]);try rfl) aV ?_|refine af ?_|refine jL (by rfl) (by rfl) (by (try simp (disch:=omega) only [go_sem,Int.reduceAdd,Int.reduceSub,Int.reduceMul,hro]);try rfl) ?_|refine ae ?_|refine fK ?_|refine dE ?_|refine qp (by rfl) aW (by (try simp (disch:=omega) only [go_sem,reduceIte,Nat.reduceEqDiff,Nat.reduceAdd,Nat.reduceMul,hro]);try rfl) ?_|refine lY (by rfl) aV aP jG mD (by rfl) mO (by rfl) mV (by (try simp (disch:=omega) only [go_sem,reduceIte,Nat.reduceEqDiff,Nat.reduceAdd,Nat.reduceMul,hro]);try rfl) aW (by (try simp (disch:=omega) only [go_sem,hro]);try rfl) aP jM ?_|refine bQ ?_|refine lD eH (by rfl) aV uS (by (try simp (disch:=omega) only [go_sem,reduceIte,Nat.reduceEqDiff,Nat.reduceAdd,Nat.reduceMul,hro]);try omega) bV (by (try simp (disch:=omega) only [go_sem,reduceIte,Nat.reduceEqDiff,Nat.reduceAdd,Nat.reduceMul,hro]);try rfl) eH (by omega) iU aW (by (try simp (disch:=omega) only [go_sem,reduceIte,Nat.reduceEqDiff,Nat.reduceAdd,Nat.reduceMul,hro]);try rfl) aP ?_)
  exact dB [1,3,11,12,13] (k+1) hkl (by omega) rfl
 ·obtain rfl:k=al.length:=by omega
  rw [List.take_length]
  repeat (first|refine ah ?_|refine af ?_|refine az ?_|refine bK (by rfl) ?_|refine au ?_|refine ak ?_|refine ae ?_)
  refine ay ?_
  rfl
def jS (fin:List Bool) (k:Nat):List Int:=((List.range k).filter fun i=>fin.getD i false).map fun i:Nat=>(i:Int)
theorem Ky (fin:List Bool) (k:Nat):jS fin (k+1)=if fin.getD k false=true then jS fin k++[(k:Int)] else jS fin k:=by
 unfold jS
 rw [List.range_succ,List.filter_append]
 cases h:fin.getD k false<;>rw [List.getD_eq_getElem?_getD] at h<;>simp [h]
theorem nO (fin:List Bool) (k:Nat):(jS fin k).length<=k:=by
 unfold jS
 rw [List.length_map]
 have:=List.length_filter_le (fun i=>fin.getD i false) (List.range k)
 simpa using this
theorem mem_finL {fin:List Bool} {p:Int}:p∈jS fin fin.length <-> isFin fin p:=by
 unfold jS isFin
 simp only [List.mem_map,List.mem_filter,List.mem_range]
 constructor
 ·rintro ⟨i,⟨h1,h2⟩,rfl⟩;exact ⟨by omega,by simpa using h2⟩
 ·rintro ⟨h1,h2⟩
  refine ⟨p.toNat,⟨?_,h2⟩,by omega⟩
  rcases Nat.lt_or_ge p.toNat fin.length with h|h
  ·exact h
  ·simp [List.getD_eq_getElem?_getD,List.getElem?_eq_none h] at h2
set_option maxHeartbeats 4000000 in
theorem tV (fin:List Bool) (hf:fin.length<=100000):HT Try.prog 70 [.sl fin.length (HL.bools fin)] (fun r=>r=.osl 1 (jS fin fin.length).length (HL.ints (jS fin fin.length))):=by
 refine HT.of rfl adF (Nat.le_of_ble_eq_true rfl) ?_
 unfold c70
 simp only [aY,Nat.reduceAdd]
 repeat (first|refine ah ?_|refine af ?_|refine aQ ?_|refine ak ?_|refine ae ?_|refine aB ?_|refine bU ?_)
 refine cu [3,6,7,8] (fun s:Nat×Nat=>s.1<=fin.length/\(jS fin s.1).length=s.2)
  (fun s=>⟨[(3,.ref 0 [] 1 0 s.2),(6,.sl fin.length (HL.bools fin)),(7,.int .i64 fin.length),(8,.int .i64 s.1)],[(0,.osl 1 s.2 (HL.ints (jS fin s.1)))],1⟩)
  (fun s=>fin.length - s.1) (0,0) ⟨by simp,rfl⟩ rfl ?_
 rintro ⟨k,m⟩ ⟨hk,hm⟩
 simp only at hk hm ⊢
 by_cases hkl:k<fin.length
 ·have hst:=Ky fin k
  have hfl:=nO fin k
  cases hb:fin.getD k false with
  | true =>
   rw [if_pos hb] at hst
   repeat (first|refine ah ?_|refine aU ?_|refine jb (by rfl) aW (by (try simp (disch:=omega) only [go_sem,hb]);try rfl) ?_|refine af ?_|refine az ?_|refine jL (by rfl) (by rfl) (by (try simp (disch:=omega) only [go_sem,Int.reduceAdd,Int.reduceSub,Int.reduceMul,hb]);try rfl) ?_|refine ax ?_|refine ak ?_|refine ae ?_|refine aB ?_|refine fK ?_|refine aF ?_|refine bQ ?_|refine lD eH (by rfl) aV uS (by (try simp (disch:=omega) only [go_sem,reduceIte,Nat.reduceEqDiff,Nat.reduceAdd,Nat.reduceMul,hb]);try omega) bV (by (try simp (disch:=omega) only [go_sem,reduceIte,Nat.reduceEqDiff,Nat.reduceAdd,Nat.reduceMul,hb]);try rfl) eH (by omega) iU aW (by (try simp (disch:=omega) only [go_sem,reduceIte,Nat.reduceEqDiff,Nat.reduceAdd,Nat.reduceMul,hb]);try rfl) aP ?_)
   exact dB [3,6,7,8] (k+1,m+1) ⟨hkl,by rw [hst];simp [hm]⟩ jh (by simp only [hst];rfl)
  | false =>
   rw [if_neg (by rw [hb];simp)] at hst
   repeat (first|refine ah ?_|refine aU ?_|refine jb (by rfl) aW (by (try simp (disch:=omega) only [go_sem,hb]);try rfl) ?_|refine af ?_|refine az ?_|refine jL (by rfl) (by rfl) (by (try simp (disch:=omega) only [go_sem,Int.reduceAdd,Int.reduceSub,Int.reduceMul,hb]);try rfl) ?_|refine ax ?_|refine au ?_|refine ak ?_|refine ae ?_|refine aB ?_|refine fK ?_|refine aF ?_)
   exact dB [3,6,7,8] (k+1,m) ⟨hkl,by rw [hst];exact hm⟩ jh (by simp only [hst];rfl)
 ·obtain rfl:k=fin.length:=by omega
  subst hm
  repeat (first|refine ah ?_|refine af ?_|refine az ?_|refine bK (by rfl) ?_|refine au ?_|refine ak ?_|refine ae ?_)
  refine ay ?_
  rfl
def jI (w:List Int) (G:List Nd) (a:A) (at_:Int):Nd×Bool :=
 if a.i = -1 then ((a.t,at_),decide ((a.t,at_)∈G))
 else if at_<w.length/\w.getD at_.toNat 0=a.i then ((a.t,at_+1),decide ((a.t,at_+1)∈G)) else ((0,0),false)
def runT (w:List Int) (ll:List (List A)) (G:List Nd):List HV:=[.sl w.length (HL.ints w),.sl ll.length (fO ll),.rmap ⟨.ints 2,none⟩ (G.map pk) (lX G.length)]
def pT (x:Nd):HV:=.agg (pC x)
theorem kJ (l:List Int):bF (HL.ints l)=[]:=by
 induction l with
 | nil=>rfl
 | cons x l ih=>simpa [HL.ints,bF,HV.deep] using ih
theorem wV {α:Type} {g:α->List HV} (h:∀x,bF (g x)=[]) (l:List α):bF (recs g l)=[]:=by
 induction l with
 | nil=>rfl
 | cons x l ih=>simp only [recs,List.flatMap_cons,jv,h,List.nil_append] at ih ⊢;exact ih
theorem yD (ll:List (List A)):bF (fO ll)=[]:=by
 induction ll with
 | nil=>rfl
 | cons l ll ih=>simp only [fO,List.map_cons,bF,jX,HV.deep,wV (g:=aC) (fun _=>rfl),List.nil_append] at ih ⊢;exact ih
theorem Fa (n:Nat):bF (lX n)=[]:=by
 induction n with
 | zero=>rfl
 | succ n ih=>simpa [lX,List.replicate_succ,bF,HV.deep] using ih
set_option maxHeartbeats 4000000 in
theorem Jw (w:List Int) (ll:List (List A)) (G:List Nd) (a:A) (at_:Int) (h0:0<=at_) (hw:w.length<=1024) (hat:at_<=w.length):HT Try.prog 99 [.ptr (runT w ll G) 0,.agg (aC a),.int .i64 at_] (fun r=>r=.tup [pT (jI w G a at_).1,.bool (jI w G a at_).2]):=by
 refine HT.ofC rfl adH [6,7] rfl (Nat.le_of_ble_eq_true rfl) ?_
 unfold c99
 simp only [aY,Nat.reduceAdd,runT,aC]
 by_cases hi:a.i = -1
 ·have hn:jI w G a at_=((a.t,at_),decide ((a.t,at_)∈G)):=by simp [jI,hi]
  repeat (first|refine ah ?_|refine aZ ?_|refine af ?_|refine dX ?_|refine ax ?_|refine ak ?_|refine ae ?_|refine aI ?_|refine dU ?_|refine bP eH ?_)
  refine bg 0 [0,2,4,6] ⟨[(0,.ptr [.sl w.length (HL.ints w),.sl ll.length (fO ll),.rmap ⟨.ints 2,none⟩ (G.map pk) (lX G.length)] 0),(2,.int .i64 at_),(4,.ptr (aC a) 0),(6,.pref 0 [] 0)],[(0,.optr [.int .i64 0,.int .i64 0])],1⟩ rfl ?_
  refine jP [0,2,4] [6] aT aT (fun _ _ _=>False) (by simp [aG,HV.deep,bF,aC,kJ,yD,Fa]) (by simp [aG,HV.deep,bF]) ?_
  simp only [aC]
  repeat (first|refine ah ?_|refine bZ ?_|refine af ?_|refine dE ?_|refine dK ?_|refine Jj (eV rfl) aV ⟨rfl,rfl⟩ Ph (by rfl) ?_|refine iE aV rfl ?_|refine di ?_)
  refine ay ?_
  exact ⟨_,_,rfl,rfl,by rw [hn];rfl⟩
 ·by_cases h1:at_<w.length
  ·by_cases h2:w.getD at_.toNat 0=a.i
   ·have hn:jI w G a at_=((a.t,at_+1),decide ((a.t,at_+1)∈G)):=by simp only [jI,if_neg hi,if_pos (show at_<w.length/\w.getD at_.toNat 0=a.i from ⟨h1,h2⟩)]
    repeat (first|refine ah ?_|refine aZ ?_|refine af ?_|refine dX ?_|refine au ?_|refine ak ?_|refine ae ?_|refine aF ?_|refine aI ?_|refine dU ?_|refine bP eH ?_)
    refine gu aT aT (fun _ _ _=>False) ?_
    repeat (first|refine ah ?_|refine aK ?_|refine aU ?_|refine bZ ?_|refine aZ ?_|refine af ?_|refine az ?_|refine dX ?_|refine aS ?_|refine aQ ?_|refine ax ?_|refine ak ?_|refine dE ?_|refine aI ?_|refine iE aV rfl ?_)
    refine bg 0 [0,2,4,6] ⟨[(0,.ptr [.sl w.length (HL.ints w),.sl ll.length (fO ll),.rmap ⟨.ints 2,none⟩ (G.map pk) (lX G.length)] 0),(2,.int .i64 at_),(4,.ptr (aC a) 0),(6,.pref 0 [] 0)],[(0,.optr [.int .i64 0,.int .i64 0])],1⟩ rfl ?_
    refine jP [0,2,4] [6] aT aT (fun _ _ _=>False) (by simp [aG,HV.deep,bF,aC,kJ,yD,Fa]) (by simp [aG,HV.deep,bF]) ?_
    simp only [aC]
    repeat (first|refine ah ?_|refine bZ ?_|refine af ?_|refine bH ?_|refine dE ?_|refine dK ?_|refine Jj (eV rfl) aV ⟨rfl,rfl⟩ Ph (by rfl) ?_|refine iE aV rfl ?_|refine di ?_)
    refine ay ?_
    exact ⟨_,_,rfl,rfl,by rw [hn];rfl⟩
   ·have hn:jI w G a at_=((0,0),false):=by simp only [jI,if_neg hi,if_neg (show ¬ (at_<w.length/\w.getD at_.toNat 0=a.i) from fun h=>h2 h.2)]
    repeat (first|refine ah ?_|refine aZ ?_|refine af ?_|refine dX ?_|refine au ?_|refine ak ?_|refine ae ?_|refine aF ?_|refine aI ?_|refine dU ?_|refine bP eH ?_)
    refine gu aT aT (fun _ _ _=>False) ?_
    repeat (first|refine ah ?_|refine aK ?_|refine aU ?_|refine bZ ?_|refine aZ ?_|refine af ?_|refine az ?_|refine dX ?_|refine aS ?_|refine aQ ?_|refine au ?_|refine ak ?_|refine ae ?_|refine aF ?_|refine dE ?_|refine aI ?_|refine dK ?_|refine iE aV rfl ?_|refine di ?_)
    refine ay ?_
    exact ⟨_,_,rfl,rfl,by rw [hn];rfl⟩
  ·have hn:jI w G a at_=((0,0),false):=by simp only [jI,if_neg hi,if_neg (show ¬ (at_<w.length/\w.getD at_.toNat 0=a.i) from fun h=>h1 h.1)]
   repeat (first|refine ah ?_|refine aZ ?_|refine af ?_|refine dX ?_|refine au ?_|refine ak ?_|refine ae ?_|refine aF ?_|refine aI ?_|refine dU ?_|refine bP eH ?_)
   refine gu aT aT (fun _ _ _=>False) ?_
   repeat (first|refine ah ?_|refine dH ?_|refine bZ ?_|refine af ?_|refine az ?_|refine aO ?_|refine aQ ?_|refine au ?_|refine ak ?_|refine ae ?_|refine aF ?_|refine dE ?_|refine dK ?_|refine iE aV rfl ?_|refine di ?_)
   refine ay ?_
   exact ⟨_,_,rfl,rfl,by rw [hn];rfl⟩
end Go.Proofs.Ytlbdmpjnmfmnfaa
