import Derived.Test.YtlbdmpjnmfmnfaaFsB
import Derived.Test.YtlbdmpjnmfmnfaaHlRo
set_option linter.unusedSimpArgs false
set_option linter.unusedVariables false
namespace Go.Proofs.Ytlbdmpjnmfmnfaa
open Go.RowKit Go.HL Go.FS
theorem gm {fin:List Bool} {al:List A} (h:okF fin al=true):1<=fin.length/\fin.length<=2048/\al.length<=8192:=by
 simp only [okF,Bool.and_eq_true,decide_eq_true_eq] at h;exact h.1
theorem fD {fin:List Bool} {al:List A} (h:okF fin al=true) {a:A} (ha:a∈al):0<=a.f/\a.f<fin.length/\0<=a.t/\a.t<fin.length /\ -1<=a.i/\a.i<64 /\ -1<=a.o/\a.o<64:=by
 simp only [okF,Bool.and_eq_true,List.all_eq_true] at h;exact okA_iff.1 (h.2 a ha)
theorem oO {l:List A} {k:Nat} (h:k<l.length):l.getD k default∈l:=by
 rw [List.getD_eq_getElem?_getD,List.getElem?_eq_getElem h];exact List.getElem_mem h
theorem dC {α:Type} [Inhabited α] {l:List α} {k:Nat} (h:k<l.length):l.take (k+1)=l.take k++[l.getD k default]:=by
 rw [List.take_add_one];simp [h]
set_option maxHeartbeats 4000000 in
theorem Gv (fin:List Bool) (al:List A) (hv:okF fin al=true):HT Try.prog 64 [.agg (iF fin al)] (fun r=>r=.osl 1 fin.length (fM (bD (·.f) fin.length al))):=by
 obtain ⟨h1,h2,h3⟩:=gm hv
 refine HT.of rfl aax (Nat.le_of_ble_eq_true rfl) ?_
 unfold c64
 simp only [aY,Nat.reduceAdd,iF,jJ]
 repeat (first|refine ah ?_|refine aW ?_|refine af ?_|refine dm (by rfl) ?_|refine ak ?_|refine ae ?_|refine aK ?_|refine bK ?_|refine aH ?_|refine dX ?_|refine mP dZ (by rfl) (by omega) aO aO ?_)
 rw [<- xe (·.f)]
 refine dn [1,3,11,12,13] (fun k:Nat=>k<=al.length)
  (fun k=>⟨[(1,.pref 0 [] 0),(3,.ref 1 [] 1 0 fin.length),(11,.sl al.length (recs aC al)),(12,.int .i64 al.length),(13,.int .i64 k)],[(0,.optr [.sl fin.length (HL.bools fin),.sl al.length (recs aC al)]),(1,.osl 1 fin.length (fM (bD (·.f) fin.length (al.take k))))],2⟩)
  (fun k=>al.length - k) 0 (by omega) rfl ?_
 intro k hk
 by_cases hkl:k<al.length
 ·have ha:=fD hv (oO hkl)
  have hlen:=iE (·.f) fin.length (al.take k)
  have hrow:((bD (·.f) fin.length (al.take k)).getD (al.getD k default).f.toNat []).length<=8192:=Nat.le_trans wY (by simp;omega)
  have hst:=vW (p:=(·.f)) (n:=fin.length) (l:=al.take k) (a:=al.getD k default) (j:=(al.getD k default).f.toNat) (by omega)
  rw [<- dC hkl] at hst
  have hro:=zS (bD (·.f) fin.length (al.take k)) (al.getD k default).f.toNat ((bD (·.f) fin.length (al.take k)).getD (al.getD k default).f.toNat []++[al.getD k default]) .dead (n:=((bD (·.f) fin.length (al.take k)).getD (al.getD k default).f.toNat []).length+1) (by simp)
  rw [hst] at hro
  repeat (first|refine bu ?_|refine af ?_|refine aF ?_|refine ax ?_|refine ak ?_|refine ae ?_|refine aK ?_|refine aI ?_|refine bG ?_|refine dG ?_|refine bI dZ ?_)
  refine bU 50 [1,3,5,11,12,13] ⟨[(1,.pref 0 [] 0),(3,.ref 1 [] 1 0 fin.length),(5,.ptr (aC (al.getD k default)) 0),(11,.sl al.length (recs aC al)),(12,.int .i64 al.length),(13,.int .i64 k)],[(0,.optr [.sl fin.length (HL.bools fin),.sl al.length (recs aC al)]),(1,.osl 1 fin.length (fM (bD (·.f) fin.length (al.take k))))],2⟩ rfl ?_
  unfold Qy
  refine lg [5] [3] bC bC (fun _ _ _=>False) (by simp [aA,HV.deep,bg,aC]) (by simp [aA,HV.deep,bg]) ?_
  simp only [aC]
  repeat (first|refine ah ?_|refine gQ ?_|refine jf (by rfl) aQ (by (try simp (disch:=omega) only [go_sem,hro]);try rfl) ?_|refine iG (by rfl) bQ (by (try simp (disch:=omega) only [go_sem,reduceIte,Nat.reduceEqDiff,Nat.reduceAdd,Nat.reduceMul,hro]);try rfl) aQ (by (try simp (disch:=omega) only [go_sem,hro]);try rfl) aJ ?_|refine af ?_|refine kF (by rfl) (by rfl) (by (try simp (disch:=omega) only [go_sem,Int.reduceAdd,Int.reduceSub,Int.reduceMul,hro]);try rfl) ?_|refine ae ?_|refine gV ?_|refine dh ?_|refine vJ (by rfl) aQ (by (try simp (disch:=omega) only [go_sem,reduceIte,Nat.reduceEqDiff,Nat.reduceAdd,Nat.reduceMul,hro]);try rfl) ?_|refine lK (by rfl) aJ aO jh lS (by rfl) nC (by rfl) mV (by (try simp (disch:=omega) only [go_sem,reduceIte,Nat.reduceEqDiff,Nat.reduceAdd,Nat.reduceMul,hro]);try rfl) aQ (by (try simp (disch:=omega) only [go_sem,hro]);try rfl) aO jk ?_|refine cO ?_|refine lI dZ (by rfl) aJ sK (by (try simp (disch:=omega) only [go_sem,reduceIte,Nat.reduceEqDiff,Nat.reduceAdd,Nat.reduceMul,hro]);try omega) bQ (by (try simp (disch:=omega) only [go_sem,reduceIte,Nat.reduceEqDiff,Nat.reduceAdd,Nat.reduceMul,hro]);try rfl) dZ (by omega) iC aQ (by (try simp (disch:=omega) only [go_sem,reduceIte,Nat.reduceEqDiff,Nat.reduceAdd,Nat.reduceMul,hro]);try rfl) aO ?_)
  exact dS [1,3,11,12,13] (k+1) hkl (by omega) rfl
 ·obtain rfl:k=al.length:=by omega
  rw [List.take_length]
  repeat (first|refine ah ?_|refine af ?_|refine aF ?_|refine bZ (by rfl) ?_|refine au ?_|refine ak ?_|refine ae ?_)
  refine ay ?_
  rfl
def ng (fin:List Bool) (k:Nat):List Int:=((List.range k).filter fun i=>fin.getD i false).map fun i:Nat=>(i:Int)
theorem Jg (fin:List Bool) (k:Nat):ng fin (k+1)=if fin.getD k false=true then ng fin k++[(k:Int)] else ng fin k:=by
 unfold ng
 rw [List.range_succ,List.filter_append]
 cases h:fin.getD k false<;>rw [List.getD_eq_getElem?_getD] at h<;>simp [h]
theorem uI (fin:List Bool) (k:Nat):(ng fin k).length<=k:=by
 unfold ng
 rw [List.length_map]
 have:=List.length_filter_le (fun i=>fin.getD i false) (List.range k)
 simpa using this
theorem mem_finL {fin:List Bool} {p:Int}:p∈ng fin fin.length <-> isFin fin p:=by
 unfold ng isFin
 simp only [List.mem_map,List.mem_filter,List.mem_range]
 constructor
 ·rintro ⟨i,⟨h1,h2⟩,rfl⟩;exact ⟨by omega,by simpa using h2⟩
 ·rintro ⟨h1,h2⟩
  refine ⟨p.toNat,⟨?_,h2⟩,by omega⟩
  rcases Nat.lt_or_ge p.toNat fin.length with h|h
  ·exact h
  ·simp [List.getD_eq_getElem?_getD,List.getElem?_eq_none h] at h2
set_option maxHeartbeats 4000000 in
theorem zH (fin:List Bool) (hf:fin.length<=100000):HT Try.prog 70 [.sl fin.length (HL.bools fin)] (fun r=>r=.osl 1 (ng fin fin.length).length (HL.ints (ng fin fin.length))):=by
 refine HT.of rfl ZO (Nat.le_of_ble_eq_true rfl) ?_
 unfold c70
 simp only [aY,Nat.reduceAdd]
 repeat (first|refine ah ?_|refine af ?_|refine dm (by rfl) ?_|refine ak ?_|refine ae ?_|refine aK ?_|refine bK ?_)
 refine dn [3,6,7,8] (fun s:Nat×Nat=>s.1<=fin.length/\(ng fin s.1).length=s.2)
  (fun s=>⟨[(3,.ref 0 [] 1 0 s.2),(6,.sl fin.length (HL.bools fin)),(7,.int .i64 fin.length),(8,.int .i64 s.1)],[(0,.osl 1 s.2 (HL.ints (ng fin s.1)))],1⟩)
  (fun s=>fin.length - s.1) (0,0) ⟨by simp,rfl⟩ rfl ?_
 rintro ⟨k,m⟩ ⟨hk,hm⟩
 simp only at hk hm ⊢
 by_cases hkl:k<fin.length
 ·have hst:=Jg fin k
  have hfl:=uI fin k
  cases hb:fin.getD k false with
  | true =>
   rw [if_pos hb] at hst
   repeat (first|refine ah ?_|refine bu ?_|refine jf (by rfl) aQ (by (try simp (disch:=omega) only [go_sem,hb]);try rfl) ?_|refine af ?_|refine aF ?_|refine kF (by rfl) (by rfl) (by (try simp (disch:=omega) only [go_sem,Int.reduceAdd,Int.reduceSub,Int.reduceMul,hb]);try rfl) ?_|refine ax ?_|refine ak ?_|refine ae ?_|refine aK ?_|refine gV ?_|refine aI ?_|refine cO ?_|refine lI dZ (by rfl) aJ sK (by (try simp (disch:=omega) only [go_sem,reduceIte,Nat.reduceEqDiff,Nat.reduceAdd,Nat.reduceMul,hb]);try omega) bQ (by (try simp (disch:=omega) only [go_sem,reduceIte,Nat.reduceEqDiff,Nat.reduceAdd,Nat.reduceMul,hb]);try rfl) dZ (by omega) iC aQ (by (try simp (disch:=omega) only [go_sem,reduceIte,Nat.reduceEqDiff,Nat.reduceAdd,Nat.reduceMul,hb]);try rfl) aO ?_)
   exact dS [3,6,7,8] (k+1,m+1) ⟨hkl,by rw [hst];simp [hm]⟩ iH (by simp only [hst];rfl)
  | false =>
   rw [if_neg (by rw [hb];simp)] at hst
   repeat (first|refine ah ?_|refine bu ?_|refine jf (by rfl) aQ (by (try simp (disch:=omega) only [go_sem,hb]);try rfl) ?_|refine af ?_|refine aF ?_|refine kF (by rfl) (by rfl) (by (try simp (disch:=omega) only [go_sem,Int.reduceAdd,Int.reduceSub,Int.reduceMul,hb]);try rfl) ?_|refine ax ?_|refine au ?_|refine ak ?_|refine ae ?_|refine aK ?_|refine gV ?_|refine aI ?_)
   exact dS [3,6,7,8] (k+1,m) ⟨hkl,by rw [hst];exact hm⟩ iH (by simp only [hst];rfl)
 ·obtain rfl:k=fin.length:=by omega
  subst hm
  repeat (first|refine ah ?_|refine af ?_|refine aF ?_|refine bZ (by rfl) ?_|refine au ?_|refine ak ?_|refine ae ?_)
  refine ay ?_
  rfl
def jc (w:List Int) (G:List Nd) (a:A) (at_:Int):Nd×Bool :=
 if a.i = -1 then ((a.t,at_),decide ((a.t,at_)∈G))
 else if at_<w.length/\w.getD at_.toNat 0=a.i then ((a.t,at_+1),decide ((a.t,at_+1)∈G)) else ((0,0),false)
def runT (w:List Int) (ll:List (List A)) (G:List Nd):List HV:=[.sl w.length (HL.ints w),.sl ll.length (eU ll),.rmap ⟨.ints 2,none⟩ (G.map pk) (kT G.length)]
def pT (x:Nd):HV:=.agg (pC x)
theorem sW (l:List Int):bg (HL.ints l)=[]:=by
 induction l with
 | nil=>rfl
 | cons x l ih=>simpa [HL.ints,bg,HV.deep] using ih
theorem uS {α:Type} {g:α->List HV} (h:∀x,bg (g x)=[]) (l:List α):bg (recs g l)=[]:=by
 induction l with
 | nil=>rfl
 | cons x l ih=>simp only [recs,List.flatMap_cons,jo,h,List.nil_append] at ih ⊢;exact ih
theorem yz (ll:List (List A)):bg (eU ll)=[]:=by
 induction ll with
 | nil=>rfl
 | cons l ll ih=>simp only [eU,List.map_cons,bg,jJ,HV.deep,uS (g:=aC) (fun _=>rfl),List.nil_append] at ih ⊢;exact ih
theorem BU (n:Nat):bg (kT n)=[]:=by
 induction n with
 | zero=>rfl
 | succ n ih=>simpa [kT,List.replicate_succ,bg,HV.deep] using ih
set_option maxHeartbeats 4000000 in
theorem Gs (w:List Int) (ll:List (List A)) (G:List Nd) (a:A) (at_:Int) (h0:0<=at_) (hw:w.length<=1024) (hat:at_<=w.length):HT Try.prog 99 [.ptr (runT w ll G) 0,.agg (aC a),.int .i64 at_] (fun r=>r=.tup [pT (jc w G a at_).1,.bool (jc w G a at_).2]):=by
 refine HT.ofC rfl aal [6,7] rfl (Nat.le_of_ble_eq_true rfl) ?_
 unfold c99
 simp only [aY,Nat.reduceAdd,runT,aC]
 by_cases hi:a.i = -1
 ·have hn:jc w G a at_=((a.t,at_),decide ((a.t,at_)∈G)):=by simp [jc,hi]
  repeat (first|refine ah ?_|refine aW ?_|refine af ?_|refine dV ?_|refine ax ?_|refine ak ?_|refine ae ?_|refine aH ?_|refine dX ?_|refine bI dZ ?_)
  refine bU 0 [0,2,4,6] ⟨[(0,.ptr [.sl w.length (HL.ints w),.sl ll.length (eU ll),.rmap ⟨.ints 2,none⟩ (G.map pk) (kT G.length)] 0),(2,.int .i64 at_),(4,.ptr (aC a) 0),(6,.pref 0 [] 0)],[(0,.optr [.int .i64 0,.int .i64 0])],1⟩ rfl ?_
  refine lg [0,2,4] [6] bC bC (fun _ _ _=>False) (by simp [aA,HV.deep,bg,aC,sW,yz,BU]) (by simp [aA,HV.deep,bg]) ?_
  simp only [aC]
  repeat (first|refine ah ?_|refine dP ?_|refine af ?_|refine dh ?_|refine dG ?_|refine Gx (eV rfl) aJ ⟨rfl,rfl⟩ F6 (by rfl) ?_|refine gX aJ rfl ?_|refine bY ?_)
  refine ay ?_
  exact ⟨_,_,rfl,rfl,by rw [hn];rfl⟩
 ·by_cases h1:at_<w.length
  ·by_cases h2:w.getD at_.toNat 0=a.i
   ·have hn:jc w G a at_=((a.t,at_+1),decide ((a.t,at_+1)∈G)):=by simp only [jc,if_neg hi,if_pos (show at_<w.length/\w.getD at_.toNat 0=a.i from ⟨h1,h2⟩)]
    repeat (first|refine ah ?_|refine aW ?_|refine af ?_|refine dV ?_|refine au ?_|refine ak ?_|refine ae ?_|refine aI ?_|refine aH ?_|refine dX ?_|refine bI dZ ?_)
    refine gJ bC bC (fun _ _ _=>False) ?_
    repeat (first|refine ah ?_|refine aT ?_|refine bu ?_|refine dP ?_|refine aW ?_|refine af ?_|refine aF ?_|refine dV ?_|refine aU ?_|refine dm (by rfl) ?_|refine ax ?_|refine ak ?_|refine dh ?_|refine aH ?_|refine gX aJ rfl ?_)
    refine bU 0 [0,2,4,6] ⟨[(0,.ptr [.sl w.length (HL.ints w),.sl ll.length (eU ll),.rmap ⟨.ints 2,none⟩ (G.map pk) (kT G.length)] 0),(2,.int .i64 at_),(4,.ptr (aC a) 0),(6,.pref 0 [] 0)],[(0,.optr [.int .i64 0,.int .i64 0])],1⟩ rfl ?_
    refine lg [0,2,4] [6] bC bC (fun _ _ _=>False) (by simp [aA,HV.deep,bg,aC,sW,yz,BU]) (by simp [aA,HV.deep,bg]) ?_
    simp only [aC]
    repeat (first|refine ah ?_|refine dP ?_|refine af ?_|refine bM ?_|refine dh ?_|refine dG ?_|refine Gx (eV rfl) aJ ⟨rfl,rfl⟩ F6 (by rfl) ?_|refine gX aJ rfl ?_|refine bY ?_)
    refine ay ?_
    exact ⟨_,_,rfl,rfl,by rw [hn];rfl⟩
   ·have hn:jc w G a at_=((0,0),false):=by simp only [jc,if_neg hi,if_neg (show ¬ (at_<w.length/\w.getD at_.toNat 0=a.i) from fun h=>h2 h.2)]
    repeat (first|refine ah ?_|refine aW ?_|refine af ?_|refine dV ?_|refine au ?_|refine ak ?_|refine ae ?_|refine aI ?_|refine aH ?_|refine dX ?_|refine bI dZ ?_)
    refine gJ bC bC (fun _ _ _=>False) ?_
    repeat (first|refine ah ?_|refine aT ?_|refine bu ?_|refine dP ?_|refine aW ?_|refine af ?_|refine aF ?_|refine dV ?_|refine aU ?_|refine dm (by rfl) ?_|refine au ?_|refine ak ?_|refine ae ?_|refine aI ?_|refine dh ?_|refine aH ?_|refine dG ?_|refine gX aJ rfl ?_|refine bY ?_)
    refine ay ?_
    exact ⟨_,_,rfl,rfl,by rw [hn];rfl⟩
  ·have hn:jc w G a at_=((0,0),false):=by simp only [jc,if_neg hi,if_neg (show ¬ (at_<w.length/\w.getD at_.toNat 0=a.i) from fun h=>h1 h.1)]
   repeat (first|refine ah ?_|refine aW ?_|refine af ?_|refine dV ?_|refine au ?_|refine ak ?_|refine ae ?_|refine aI ?_|refine aH ?_|refine dX ?_|refine bI dZ ?_)
   refine gJ bC bC (fun _ _ _=>False) ?_
   repeat (first|refine ah ?_|refine dI ?_|refine dP ?_|refine af ?_|refine aF ?_|refine aS ?_|refine dm (by rfl) ?_|refine au ?_|refine ak ?_|refine ae ?_|refine aI ?_|refine dh ?_|refine dG ?_|refine gX aJ rfl ?_|refine bY ?_)
   refine ay ?_
   exact ⟨_,_,rfl,rfl,by rw [hn];rfl⟩
end Go.Proofs.Ytlbdmpjnmfmnfaa
