import Derived.Test.YtlbdmpjnmfmnfaaFsB
import Derived.Test.YtlbdmpjnmfmnfaaHlRo
set_option linter.unusedSimpArgs false
set_option linter.unusedVariables false
namespace Go.Proofs.Ytlbdmpjnmfmnfaa
open Go.RowKit Go.HL Go.FS
theorem jf {fin:List Bool} {al:List A} (h:okF fin al=true):1<=fin.length/\fin.length<=2048/\al.length<=8192:=by
 simp only [okF,Bool.and_eq_true,decide_eq_true_eq] at h;exact h.1
theorem eU {fin:List Bool} {al:List A} (h:okF fin al=true) {a:A} (ha:a∈al):0<=a.f/\a.f<fin.length/\0<=a.t/\a.t<fin.length /\ -1<=a.i/\a.i<64 /\ -1<=a.o/\a.o<64:=by
 simp only [okF,Bool.and_eq_true,List.all_eq_true] at h;exact okA_iff.1 (h.2 a ha)
theorem iY {l:List A} {k:Nat} (h:k<l.length):l.getD k default∈l:=by
 rw [List.getD_eq_getElem?_getD,List.getElem?_eq_getElem h];exact List.getElem_mem h
theorem dA {α:Type} [Inhabited α] {l:List α} {k:Nat} (h:k<l.length):l.take (k+1)=l.take k++[l.getD k default]:=by
 rw [List.take_add_one];simp [h]
set_option maxHeartbeats 4000000 in
theorem F7 (fin:List Bool) (al:List A) (hv:okF fin al=true):HT Try.prog 64 [.agg (fA fin al)] (fun r=>r=.osl 1 fin.length (fP (bM (·.f) fin.length al))):=by
 obtain ⟨h1,h2,h3⟩:=jf hv
 refine HT.of rfl ZF (Nat.le_of_ble_eq_true rfl) ?_
 unfold c64
 simp only [aW,Nat.reduceAdd,fA,iw]
 repeat (first|refine ah ?_|refine aU ?_|refine af ?_|refine aI ?_|refine au ?_|refine ae ?_|refine aA ?_|refine bT ?_|refine aB ?_|refine dD ?_|refine nI dS (by rfl) (by omega) aK aK ?_)
 rw [<- xk (·.f)]
 refine bW [1,3,11,12,13] (fun k:Nat=>k<=al.length)
  (fun k=>⟨[(1,.pref 0 [] 0),(3,.ref 1 [] 1 0 fin.length),(11,.sl al.length (recs aC al)),(12,.int .i64 al.length),(13,.int .i64 k)],[(0,.optr [.sl fin.length (HL.bools fin),.sl al.length (recs aC al)]),(1,.osl 1 fin.length (fP (bM (·.f) fin.length (al.take k))))],2⟩)
  (fun k=>al.length - k) 0 (by omega) rfl ?_
 intro k hk
 by_cases hkl:k<al.length
 ·have ha:=eU hv (iY hkl)
  have hlen:=iL (·.f) fin.length (al.take k)
  have hrow:((bM (·.f) fin.length (al.take k)).getD (al.getD k default).f.toNat []).length<=8192:=Nat.le_trans xw (by simp;omega)
  have hst:=uY (p:=(·.f)) (n:=fin.length) (l:=al.take k) (a:=al.getD k default) (j:=(al.getD k default).f.toNat) (by omega)
  rw [<- dA hkl] at hst
  have hro:=yM (bM (·.f) fin.length (al.take k)) (al.getD k default).f.toNat ((bM (·.f) fin.length (al.take k)).getD (al.getD k default).f.toNat []++[al.getD k default]) .dead (n:=((bM (·.f) fin.length (al.take k)).getD (al.getD k default).f.toNat []).length+1) (by simp)
  rw [hst] at hro
  repeat (first|refine aO ?_|refine af ?_|refine az ?_|refine ak ?_|refine au ?_|refine ae ?_|refine aA ?_|refine aF ?_|refine aZ ?_|refine cZ ?_|refine bG dS ?_)
  refine bg 50 [1,3,5,11,12,13] ⟨[(1,.pref 0 [] 0),(3,.ref 1 [] 1 0 fin.length),(5,.ptr (aC (al.getD k default)) 0),(11,.sl al.length (recs aC al)),(12,.int .i64 al.length),(13,.int .i64 k)],[(0,.optr [.sl fin.length (HL.bools fin),.sl al.length (recs aC al)]),(1,.osl 1 fin.length (fP (bM (·.f) fin.length (al.take k))))],2⟩ rfl ?_
  unfold OZ
  refine ji [5] [3] aY aY (fun _ _ _=>False) (by simp [aT,HV.deep,bz,aC]) (by simp [aT,HV.deep,bz]) ?_
  simp only [aC]
  repeat (first|refine ah ?_|refine dC ?_|refine eG (by rfl) aG (by (try simp (disch:=omega) only [go_sem,hro]);try rfl) ?_|refine dU (by rfl) bn (by (try simp (disch:=omega) only [go_sem,reduceIte,Nat.reduceEqDiff,Nat.reduceAdd,Nat.reduceMul,hro]);try rfl) aG (by (try simp (disch:=omega) only [go_sem,hro]);try rfl) aJ ?_|refine af ?_|refine gI (by rfl) (by rfl) (by (try simp (disch:=omega) only [go_sem,Int.reduceAdd,Int.reduceSub,Int.reduceMul,hro]);try rfl) ?_|refine ae ?_|refine dL ?_|refine aX ?_|refine iq (by rfl) aG (by (try simp (disch:=omega) only [go_sem,reduceIte,Nat.reduceEqDiff,Nat.reduceAdd,Nat.reduceMul,hro]);try rfl) ?_|refine kF (by rfl) aJ aK jy kK (by rfl) kP (by rfl) kN (by (try simp (disch:=omega) only [go_sem,reduceIte,Nat.reduceEqDiff,Nat.reduceAdd,Nat.reduceMul,hro]);try rfl) aG (by (try simp (disch:=omega) only [go_sem,hro]);try rfl) aK jc ?_|refine bU ?_|refine kT dS (by rfl) aJ rD (by (try simp (disch:=omega) only [go_sem,reduceIte,Nat.reduceEqDiff,Nat.reduceAdd,Nat.reduceMul,hro]);try omega) bn (by (try simp (disch:=omega) only [go_sem,reduceIte,Nat.reduceEqDiff,Nat.reduceAdd,Nat.reduceMul,hro]);try rfl) dS (by omega) iH aG (by (try simp (disch:=omega) only [go_sem,reduceIte,Nat.reduceEqDiff,Nat.reduceAdd,Nat.reduceMul,hro]);try rfl) aK ?_)
  exact dm [1,3,11,12,13] (k+1) hkl (by omega) rfl
 ·obtain rfl:k=al.length:=by omega
  rw [List.take_length]
  repeat (first|refine ah ?_|refine af ?_|refine az ?_|refine bQ (by rfl) ?_|refine ax ?_|refine au ?_|refine ae ?_)
  refine ay ?_
  rfl
def oM (fin:List Bool) (k:Nat):List Int:=((List.range k).filter fun i=>fin.getD i false).map fun i:Nat=>(i:Int)
theorem Hw (fin:List Bool) (k:Nat):oM fin (k+1)=if fin.getD k false=true then oM fin k++[(k:Int)] else oM fin k:=by
 unfold oM
 rw [List.range_succ,List.filter_append]
 cases h:fin.getD k false<;>rw [List.getD_eq_getElem?_getD] at h<;>simp [h]
theorem xB (fin:List Bool) (k:Nat):(oM fin k).length<=k:=by
 unfold oM
 rw [List.length_map]
 have:=List.length_filter_le (fun i=>fin.getD i false) (List.range k)
 simpa using this
theorem mem_finL {fin:List Bool} {p:Int}:p∈oM fin fin.length <-> isFin fin p:=by
 unfold oM isFin
 simp only [List.mem_map,List.mem_filter,List.mem_range]
 constructor
 ·rintro ⟨i,⟨h1,h2⟩,rfl⟩;exact ⟨by omega,by simpa using h2⟩
 ·rintro ⟨h1,h2⟩
  refine ⟨p.toNat,⟨?_,h2⟩,by omega⟩
  rcases Nat.lt_or_ge p.toNat fin.length with h|h
  ·exact h
  ·simp [List.getD_eq_getElem?_getD,List.getElem?_eq_none h] at h2
set_option maxHeartbeats 4000000 in
theorem yF (fin:List Bool) (hf:fin.length<=100000):HT Try.prog 70 [.sl fin.length (HL.bools fin)] (fun r=>r=.osl 1 (oM fin fin.length).length (HL.ints (oM fin fin.length))):=by
 refine HT.of rfl aam (Nat.le_of_ble_eq_true rfl) ?_
 unfold c70
 simp only [aW,Nat.reduceAdd]
 repeat (first|refine ah ?_|refine af ?_|refine aI ?_|refine au ?_|refine ae ?_|refine aA ?_|refine bT ?_)
 refine bW [3,6,7,8] (fun s:Nat×Nat=>s.1<=fin.length/\(oM fin s.1).length=s.2)
  (fun s=>⟨[(3,.ref 0 [] 1 0 s.2),(6,.sl fin.length (HL.bools fin)),(7,.int .i64 fin.length),(8,.int .i64 s.1)],[(0,.osl 1 s.2 (HL.ints (oM fin s.1)))],1⟩)
  (fun s=>fin.length - s.1) (0,0) ⟨by simp,rfl⟩ rfl ?_
 rintro ⟨k,m⟩ ⟨hk,hm⟩
 simp only at hk hm ⊢
 by_cases hkl:k<fin.length
 ·have hst:=Hw fin k
  have hfl:=xB fin k
  cases hb:fin.getD k false with
  | true =>
   rw [if_pos hb] at hst
   repeat (first|refine ah ?_|refine aO ?_|refine eG (by rfl) aG (by (try simp (disch:=omega) only [go_sem,hb]);try rfl) ?_|refine af ?_|refine az ?_|refine gI (by rfl) (by rfl) (by (try simp (disch:=omega) only [go_sem,Int.reduceAdd,Int.reduceSub,Int.reduceMul,hb]);try rfl) ?_|refine ak ?_|refine au ?_|refine ae ?_|refine aA ?_|refine dL ?_|refine aF ?_|refine bU ?_|refine kT dS (by rfl) aJ rD (by (try simp (disch:=omega) only [go_sem,reduceIte,Nat.reduceEqDiff,Nat.reduceAdd,Nat.reduceMul,hb]);try omega) bn (by (try simp (disch:=omega) only [go_sem,reduceIte,Nat.reduceEqDiff,Nat.reduceAdd,Nat.reduceMul,hb]);try rfl) dS (by omega) iH aG (by (try simp (disch:=omega) only [go_sem,reduceIte,Nat.reduceEqDiff,Nat.reduceAdd,Nat.reduceMul,hb]);try rfl) aK ?_)
   exact dm [3,6,7,8] (k+1,m+1) ⟨hkl,by rw [hst];simp [hm]⟩ iP (by simp only [hst];rfl)
  | false =>
   rw [if_neg (by rw [hb];simp)] at hst
   repeat (first|refine ah ?_|refine aO ?_|refine eG (by rfl) aG (by (try simp (disch:=omega) only [go_sem,hb]);try rfl) ?_|refine af ?_|refine az ?_|refine gI (by rfl) (by rfl) (by (try simp (disch:=omega) only [go_sem,Int.reduceAdd,Int.reduceSub,Int.reduceMul,hb]);try rfl) ?_|refine ak ?_|refine ax ?_|refine au ?_|refine ae ?_|refine aA ?_|refine dL ?_|refine aF ?_)
   exact dm [3,6,7,8] (k+1,m) ⟨hkl,by rw [hst];exact hm⟩ iP (by simp only [hst];rfl)
 ·obtain rfl:k=fin.length:=by omega
  subst hm
  repeat (first|refine ah ?_|refine af ?_|refine az ?_|refine bQ (by rfl) ?_|refine ax ?_|refine au ?_|refine ae ?_)
  refine ay ?_
  rfl
def jA (w:List Int) (G:List Nd) (a:A) (at_:Int):Nd×Bool :=
 if a.i = -1 then ((a.t,at_),decide ((a.t,at_)∈G))
 else if at_<w.length/\w.getD at_.toNat 0=a.i then ((a.t,at_+1),decide ((a.t,at_+1)∈G)) else ((0,0),false)
def runT (w:List Int) (ll:List (List A)) (G:List Nd):List HV:=[.sl w.length (HL.ints w),.sl ll.length (fD ll),.rmap ⟨.ints 2,none⟩ (G.map pk) (lg G.length)]
def pT (x:Nd):HV:=.agg (pC x)
theorem jP (l:List Int):bz (HL.ints l)=[]:=by
 induction l with
 | nil=>rfl
 | cons x l ih=>simpa [HL.ints,bz,HV.deep] using ih
theorem uA {α:Type} {g:α->List HV} (h:∀x,bz (g x)=[]) (l:List α):bz (recs g l)=[]:=by
 induction l with
 | nil=>rfl
 | cons x l ih=>simp only [recs,List.flatMap_cons,oH,h,List.nil_append] at ih ⊢;exact ih
theorem xM (ll:List (List A)):bz (fD ll)=[]:=by
 induction ll with
 | nil=>rfl
 | cons l ll ih=>simp only [fD,List.map_cons,bz,iw,HV.deep,uA (g:=aC) (fun _=>rfl),List.nil_append] at ih ⊢;exact ih
theorem CW (n:Nat):bz (lg n)=[]:=by
 induction n with
 | zero=>rfl
 | succ n ih=>simpa [lg,List.replicate_succ,bz,HV.deep] using ih
set_option maxHeartbeats 4000000 in
theorem Gh (w:List Int) (ll:List (List A)) (G:List Nd) (a:A) (at_:Int) (h0:0<=at_) (hw:w.length<=1024) (hat:at_<=w.length):HT Try.prog 99 [.ptr (runT w ll G) 0,.agg (aC a),.int .i64 at_] (fun r=>r=.tup [pT (jA w G a at_).1,.bool (jA w G a at_).2]):=by
 refine HT.ofC rfl aaz [6,7] rfl (Nat.le_of_ble_eq_true rfl) ?_
 unfold c99
 simp only [aW,Nat.reduceAdd,runT,aC]
 by_cases hi:a.i = -1
 ·have hn:jA w G a at_=((a.t,at_),decide ((a.t,at_)∈G)):=by simp [jA,hi]
  repeat (first|refine ah ?_|refine aU ?_|refine af ?_|refine dB ?_|refine ak ?_|refine au ?_|refine ae ?_|refine aB ?_|refine dD ?_|refine bG dS ?_)
  refine bg 0 [0,2,4,6] ⟨[(0,.ptr [.sl w.length (HL.ints w),.sl ll.length (fD ll),.rmap ⟨.ints 2,none⟩ (G.map pk) (lg G.length)] 0),(2,.int .i64 at_),(4,.ptr (aC a) 0),(6,.pref 0 [] 0)],[(0,.optr [.int .i64 0,.int .i64 0])],1⟩ rfl ?_
  refine ji [0,2,4] [6] aY aY (fun _ _ _=>False) (by simp [aT,HV.deep,bz,aC,jP,xM,CW]) (by simp [aT,HV.deep,bz]) ?_
  simp only [aC]
  repeat (first|refine ah ?_|refine di ?_|refine af ?_|refine aX ?_|refine cZ ?_|refine Fa (eV rfl) aJ ⟨rfl,rfl⟩ ET (by rfl) ?_|refine iC aJ rfl ?_|refine bZ ?_)
  refine ay ?_
  exact ⟨_,_,rfl,rfl,by rw [hn];rfl⟩
 ·by_cases h1:at_<w.length
  ·by_cases h2:w.getD at_.toNat 0=a.i
   ·have hn:jA w G a at_=((a.t,at_+1),decide ((a.t,at_+1)∈G)):=by simp only [jA,if_neg hi,if_pos (show at_<w.length/\w.getD at_.toNat 0=a.i from ⟨h1,h2⟩)]
    repeat (first|refine ah ?_|refine aU ?_|refine af ?_|refine dB ?_|refine ax ?_|refine au ?_|refine ae ?_|refine aF ?_|refine aB ?_|refine dD ?_|refine bG dS ?_)
    refine dV aY aY (fun _ _ _=>False) ?_
    repeat (first|refine ah ?_|refine aN ?_|refine aO ?_|refine di ?_|refine aU ?_|refine af ?_|refine az ?_|refine dB ?_|refine aV ?_|refine aI ?_|refine ak ?_|refine au ?_|refine aX ?_|refine aB ?_|refine iC aJ rfl ?_)
    refine bg 0 [0,2,4,6] ⟨[(0,.ptr [.sl w.length (HL.ints w),.sl ll.length (fD ll),.rmap ⟨.ints 2,none⟩ (G.map pk) (lg G.length)] 0),(2,.int .i64 at_),(4,.ptr (aC a) 0),(6,.pref 0 [] 0)],[(0,.optr [.int .i64 0,.int .i64 0])],1⟩ rfl ?_
    refine ji [0,2,4] [6] aY aY (fun _ _ _=>False) (by simp [aT,HV.deep,bz,aC,jP,xM,CW]) (by simp [aT,HV.deep,bz]) ?_
    simp only [aC]
    repeat (first|refine ah ?_|refine di ?_|refine af ?_|refine bY ?_|refine aX ?_|refine cZ ?_|refine Fa (eV rfl) aJ ⟨rfl,rfl⟩ ET (by rfl) ?_|refine iC aJ rfl ?_|refine bZ ?_)
    refine ay ?_
    exact ⟨_,_,rfl,rfl,by rw [hn];rfl⟩
   ·have hn:jA w G a at_=((0,0),false):=by simp only [jA,if_neg hi,if_neg (show ¬ (at_<w.length/\w.getD at_.toNat 0=a.i) from fun h=>h2 h.2)]
    repeat (first|refine ah ?_|refine aU ?_|refine af ?_|refine dB ?_|refine ax ?_|refine au ?_|refine ae ?_|refine aF ?_|refine aB ?_|refine dD ?_|refine bG dS ?_)
    refine dV aY aY (fun _ _ _=>False) ?_
    repeat (first|refine ah ?_|refine aN ?_|refine aO ?_|refine di ?_|refine aU ?_|refine af ?_|refine az ?_|refine dB ?_|refine aV ?_|refine aI ?_|refine ax ?_|refine au ?_|refine ae ?_|refine aF ?_|refine aX ?_|refine aB ?_|refine cZ ?_|refine iC aJ rfl ?_|refine bZ ?_)
    refine ay ?_
    exact ⟨_,_,rfl,rfl,by rw [hn];rfl⟩
  ·have hn:jA w G a at_=((0,0),false):=by simp only [jA,if_neg hi,if_neg (show ¬ (at_<w.length/\w.getD at_.toNat 0=a.i) from fun h=>h1 h.1)]
   repeat (first|refine ah ?_|refine aU ?_|refine af ?_|refine dB ?_|refine ax ?_|refine au ?_|refine ae ?_|refine aF ?_|refine aB ?_|refine dD ?_|refine bG dS ?_)
   refine dV aY aY (fun _ _ _=>False) ?_
   repeat (first|refine ah ?_|refine dn ?_|refine di ?_|refine af ?_|refine az ?_|refine aP ?_|refine aI ?_|refine ax ?_|refine au ?_|refine ae ?_|refine aF ?_|refine aX ?_|refine cZ ?_|refine iC aJ rfl ?_|refine bZ ?_)
   refine ay ?_
   exact ⟨_,_,rfl,rfl,by rw [hn];rfl⟩
end Go.Proofs.Ytlbdmpjnmfmnfaa
