import Derived.Test.YtlbdmpjnmfmnfaaFsB
import Derived.Test.YtlbdmpjnmfmnfaaHlRo
set_option linter.unusedSimpArgs false
set_option linter.unusedVariables false
namespace Go.Proofs.Ytlbdmpjnmfmnfaa
open Go.RowKit Go.HL Go.FS
theorem jH {fin:List Bool} {al:List A} (h:okF fin al=true):1<=fin.length/\fin.length<=2048/\al.length<=8192:=by
 simp only [okF,Bool.and_eq_true,decide_eq_true_eq] at h;exact h.1
theorem fU {fin:List Bool} {al:List A} (h:okF fin al=true) {a:A} (ha:a∈al):0<=a.f/\a.f<fin.length/\0<=a.t/\a.t<fin.length /\ -1<=a.i/\a.i<64 /\ -1<=a.o/\a.o<64:=by
 simp only [okF,Bool.and_eq_true,List.all_eq_true] at h;exact okA_iff.1 (h.2 a ha)
theorem mg {l:List A} {k:Nat} (h:k<l.length):l.getD k default∈l:=by
 rw [List.getD_eq_getElem?_getD,List.getElem?_eq_getElem h];exact List.getElem_mem h
theorem dh {α:Type} [Inhabited α] {l:List α} {k:Nat} (h:k<l.length):l.take (k+1)=l.take k++[l.getD k default]:=by
 rw [List.take_add_one];simp [h]
set_option maxHeartbeats 4000000 in
theorem FO (fin:List Bool) (al:List A) (hv:okF fin al=true):HT Try.prog 64 [.agg (gX fin al)] (fun r=>r=.osl 1 fin.length (fA (bD (·.f) fin.length al))):=by
 obtain ⟨h1,h2,h3⟩:=jH hv
 refine HT.of rfl YO (Nat.le_of_ble_eq_true rfl) ?_
 unfold c64
 simp only [aW,Nat.reduceAdd,gX,ji]
 repeat (first|refine ag ?_|refine aY ?_|refine af ?_|refine aP ?_|refine ah ?_|refine ae ?_|refine aG ?_|refine bG ?_|refine aI ?_|refine fF ?_|refine Eu dZ (by rfl) (by omega) aV aV ?_)
 rw [<- wP (·.f)]
 refine cu [1,3,11,12,13] (fun k:Nat=>k<=al.length)
  (fun k=>⟨[(1,.pref 0 [] 0),(3,.ref 1 [] 1 0 fin.length),(11,.sl al.length (recs aC al)),(12,.int .i64 al.length),(13,.int .i64 k)],[(0,.optr [.sl fin.length (HL.bools fin),.sl al.length (recs aC al)]),(1,.osl 1 fin.length (fA (bD (·.f) fin.length (al.take k))))],2⟩)
  (fun k=>al.length - k) 0 (by omega) rfl ?_
 intro k hk
 by_cases hkl:k<al.length
 ·have ha:=fU hv (mg hkl)
  have hlen:=gU (·.f) fin.length (al.take k)
  have hrow:((bD (·.f) fin.length (al.take k)).getD (al.getD k default).f.toNat []).length<=8192:=Nat.le_trans vY (by simp;omega)
  have hst:=uH (p:=(·.f)) (n:=fin.length) (l:=al.take k) (a:=al.getD k default) (j:=(al.getD k default).f.toNat) (by omega)
  rw [<- dh hkl] at hst
  have hro:=yF (bD (·.f) fin.length (al.take k)) (al.getD k default).f.toNat ((bD (·.f) fin.length (al.take k)).getD (al.getD k default).f.toNat []++[al.getD k default]) .dead (n:=((bD (·.f) fin.length (al.take k)).getD (al.getD k default).f.toNat []).length+1) (by simp)
  rw [hst] at hro
  repeat (first|refine aT ?_|refine af ?_|refine az ?_|refine ak ?_|refine ah ?_|refine ae ?_|refine aG ?_|refine aA ?_|refine bI ?_|refine dJ ?_|refine bY dZ ?_)
  refine bM 50 [1,3,5,11,12,13] ⟨[(1,.pref 0 [] 0),(3,.ref 1 [] 1 0 fin.length),(5,.ptr (aC (al.getD k default)) 0),(11,.sl al.length (recs aC al)),(12,.int .i64 al.length),(13,.int .i64 k)],[(0,.optr [.sl fin.length (HL.bools fin),.sl al.length (recs aC al)]),(1,.osl 1 fin.length (fA (bD (·.f) fin.length (al.take k))))],2⟩ rfl ?_
  unfold Pg
  refine kw [5] [3] bK bK (fun _ _ _=>False) (by simp [aH,HV.deep,bn,aC]) (by simp [aH,HV.deep,bn]) ?_
  simp only [aC]
  repeat (first|refine ag ?_|refine nY (by rfl) (by rfl) (by omega) dZ ?_|refine jc (by rfl) aS (by (try simp (disch:=omega) only [go_sem,hro]);try rfl) ?_|refine iw (by rfl) bT (by (try simp (disch:=omega) only [go_sem,reduceIte,Nat.reduceEqDiff,Nat.reduceAdd,Nat.reduceMul,hro]);try rfl) aS (by (try simp (disch:=omega) only [go_sem,hro]);try rfl) aJ ?_|refine af ?_|refine kP (by rfl) (by rfl) (by (try simp (disch:=omega) only [go_sem,Int.reduceAdd,Int.reduceSub,Int.reduceMul,hro]);try rfl) ?_|refine ae ?_|refine fJ ?_|refine dD ?_|refine uy (by rfl) aS (by (try simp (disch:=omega) only [go_sem,reduceIte,Nat.reduceEqDiff,Nat.reduceAdd,Nat.reduceMul,hro]);try rfl) ?_|refine mD (by rfl) aJ aV jK mO (by rfl) og (by rfl) oh (by (try simp (disch:=omega) only [go_sem,reduceIte,Nat.reduceEqDiff,Nat.reduceAdd,Nat.reduceMul,hro]);try rfl) aS (by (try simp (disch:=omega) only [go_sem,hro]);try rfl) aV jA ?_|refine bQ ?_|refine lY dZ (by rfl) aJ tH (by (try simp (disch:=omega) only [go_sem,reduceIte,Nat.reduceEqDiff,Nat.reduceAdd,Nat.reduceMul,hro]);try omega) bT (by (try simp (disch:=omega) only [go_sem,reduceIte,Nat.reduceEqDiff,Nat.reduceAdd,Nat.reduceMul,hro]);try rfl) dZ (by omega) iq aS (by (try simp (disch:=omega) only [go_sem,reduceIte,Nat.reduceEqDiff,Nat.reduceAdd,Nat.reduceMul,hro]);try rfl) aV ?_)
  exact dC [1,3,11,12,13] (k+1) hkl (by omega) rfl
 ·obtain rfl:k=al.length:=by omega
  rw [List.take_length]
  repeat (first|refine ag ?_|refine af ?_|refine az ?_|refine bF (by rfl) ?_|refine au ?_|refine ah ?_|refine ae ?_)
  refine ax ?_
  rfl
def qE (fin:List Bool) (k:Nat):List Int:=((List.range k).filter fun i=>fin.getD i false).map fun i:Nat=>(i:Int)
theorem HY (fin:List Bool) (k:Nat):qE fin (k+1)=if fin.getD k false=true then qE fin k++[(k:Int)] else qE fin k:=by
 unfold qE
 rw [List.range_succ,List.filter_append]
 cases h:fin.getD k false<;>rw [List.getD_eq_getElem?_getD] at h<;>simp [h]
theorem BV (fin:List Bool) (k:Nat):(qE fin k).length<=k:=by
 unfold qE
 rw [List.length_map]
 have:=List.length_filter_le (fun i=>fin.getD i false) (List.range k)
 simpa using this
theorem mem_finL {fin:List Bool} {p:Int}:p∈qE fin fin.length <-> isFin fin p:=by
 unfold qE isFin
 simp only [List.mem_map,List.mem_filter,List.mem_range]
 constructor
 ·rintro ⟨i,⟨h1,h2⟩,rfl⟩;exact ⟨by omega,by simpa using h2⟩
 ·rintro ⟨h1,h2⟩
  refine ⟨p.toNat,⟨?_,h2⟩,by omega⟩
  rcases Nat.lt_or_ge p.toNat fin.length with h|h
  ·exact h
  ·simp [List.getD_eq_getElem?_getD,List.getElem?_eq_none h] at h2
set_option maxHeartbeats 4000000 in
theorem Hw (fin:List Bool) (hf:fin.length<=100000):HT Try.prog 70 [.sl fin.length (HL.bools fin)] (fun r=>r=.osl 1 (qE fin fin.length).length (HL.ints (qE fin fin.length))):=by
 refine HT.of rfl Y6 (Nat.le_of_ble_eq_true rfl) ?_
 unfold c70
 simp only [aW,Nat.reduceAdd]
 repeat (first|refine ag ?_|refine af ?_|refine aP ?_|refine ah ?_|refine ae ?_|refine aG ?_|refine bG ?_)
 refine cu [3,6,7,8] (fun s:Nat×Nat=>s.1<=fin.length/\(qE fin s.1).length=s.2)
  (fun s=>⟨[(3,.ref 0 [] 1 0 s.2),(6,.sl fin.length (HL.bools fin)),(7,.int .i64 fin.length),(8,.int .i64 s.1)],[(0,.osl 1 s.2 (HL.ints (qE fin s.1)))],1⟩)
  (fun s=>fin.length - s.1) (0,0) ⟨by simp,rfl⟩ rfl ?_
 rintro ⟨k,m⟩ ⟨hk,hm⟩
 simp only at hk hm ⊢
 by_cases hkl:k<fin.length
 ·have hst:=HY fin k
  have hfl:=BV fin k
  cases hb:fin.getD k false with
  | true =>
   rw [if_pos hb] at hst
   repeat (first|refine ag ?_|refine aT ?_|refine jc (by rfl) aS (by (try simp (disch:=omega) only [go_sem,hb]);try rfl) ?_|refine af ?_|refine az ?_|refine kP (by rfl) (by rfl) (by (try simp (disch:=omega) only [go_sem,Int.reduceAdd,Int.reduceSub,Int.reduceMul,hb]);try rfl) ?_|refine ak ?_|refine ah ?_|refine ae ?_|refine aG ?_|refine fJ ?_|refine aA ?_|refine bQ ?_|refine lY dZ (by rfl) aJ tH (by (try simp (disch:=omega) only [go_sem,reduceIte,Nat.reduceEqDiff,Nat.reduceAdd,Nat.reduceMul,hb]);try omega) bT (by (try simp (disch:=omega) only [go_sem,reduceIte,Nat.reduceEqDiff,Nat.reduceAdd,Nat.reduceMul,hb]);try rfl) dZ (by omega) iq aS (by (try simp (disch:=omega) only [go_sem,reduceIte,Nat.reduceEqDiff,Nat.reduceAdd,Nat.reduceMul,hb]);try rfl) aV ?_)
   exact dC [3,6,7,8] (k+1,m+1) ⟨hkl,by rw [hst];simp [hm]⟩ iC (by simp only [hst];rfl)
  | false =>
   rw [if_neg (by rw [hb];simp)] at hst
   repeat (first|refine ag ?_|refine aT ?_|refine jc (by rfl) aS (by (try simp (disch:=omega) only [go_sem,hb]);try rfl) ?_|refine af ?_|refine az ?_|refine kP (by rfl) (by rfl) (by (try simp (disch:=omega) only [go_sem,Int.reduceAdd,Int.reduceSub,Int.reduceMul,hb]);try rfl) ?_|refine ak ?_|refine au ?_|refine ah ?_|refine ae ?_|refine aG ?_|refine fJ ?_|refine aA ?_)
   exact dC [3,6,7,8] (k+1,m) ⟨hkl,by rw [hst];exact hm⟩ iC (by simp only [hst];rfl)
 ·obtain rfl:k=fin.length:=by omega
  subst hm
  repeat (first|refine ag ?_|refine af ?_|refine az ?_|refine bF (by rfl) ?_|refine au ?_|refine ah ?_|refine ae ?_)
  refine ax ?_
  rfl
def iV (w:List Int) (G:List Nd) (a:A) (at_:Int):Nd×Bool :=
 if a.i = -1 then ((a.t,at_),decide ((a.t,at_)∈G))
 else if at_<w.length/\w.getD at_.toNat 0=a.i then ((a.t,at_+1),decide ((a.t,at_+1)∈G)) else ((0,0),false)
def runT (w:List Int) (ll:List (List A)) (G:List Nd):List HV:=[.sl w.length (HL.ints w),.sl ll.length (dW ll),.rmap ⟨.ints 2,none⟩ (G.map pk) (jV G.length)]
def pT (x:Nd):HV:=.agg (pC x)
theorem nH (l:List Int):bn (HL.ints l)=[]:=by
 induction l with
 | nil=>rfl
 | cons x l ih=>simpa [HL.ints,bn,HV.deep] using ih
theorem ul {α:Type} {g:α->List HV} (h:∀x,bn (g x)=[]) (l:List α):bn (recs g l)=[]:=by
 induction l with
 | nil=>rfl
 | cons x l ih=>simp only [recs,List.flatMap_cons,nK,h,List.nil_append] at ih ⊢;exact ih
theorem vO (ll:List (List A)):bn (dW ll)=[]:=by
 induction ll with
 | nil=>rfl
 | cons l ll ih=>simp only [dW,List.map_cons,bn,ji,HV.deep,ul (g:=aC) (fun _=>rfl),List.nil_append] at ih ⊢;exact ih
theorem BM (n:Nat):bn (jV n)=[]:=by
 induction n with
 | zero=>rfl
 | succ n ih=>simpa [jV,List.replicate_succ,bn,HV.deep] using ih
set_option maxHeartbeats 4000000 in
theorem F5 (w:List Int) (ll:List (List A)) (G:List Nd) (a:A) (at_:Int) (h0:0<=at_) (hw:w.length<=1024) (hat:at_<=w.length):HT Try.prog 99 [.ptr (runT w ll G) 0,.agg (aC a),.int .i64 at_] (fun r=>r=.tup [pT (iV w G a at_).1,.bool (iV w G a at_).2]):=by
 refine HT.ofC rfl Yw [6,7] rfl (Nat.le_of_ble_eq_true rfl) ?_
 unfold Zg
 simp only [aW,Nat.reduceAdd,runT,aC]
 by_cases hi:a.i = -1
 ·have hn:iV w G a at_=((a.t,at_),decide ((a.t,at_)∈G)):=by simp [iV,hi]
  repeat (first|refine ag ?_|refine aY ?_|refine af ?_|refine dH ?_|refine ak ?_|refine ah ?_|refine ae ?_|refine aI ?_|refine fF ?_|refine bY dZ ?_)
  refine bM 0 [0,2,4,6] ⟨[(0,.ptr [.sl w.length (HL.ints w),.sl ll.length (dW ll),.rmap ⟨.ints 2,none⟩ (G.map pk) (jV G.length)] 0),(2,.int .i64 at_),(4,.ptr (aC a) 0),(6,.pref 0 [] 0)],[(0,.optr [.int .i64 0,.int .i64 0])],1⟩ rfl ?_
  refine kw [0,2,4] [6] bK bK (fun _ _ _=>False) (by simp [aH,HV.deep,bn,aC,nH,vO,BM]) (by simp [aH,HV.deep,bn]) ?_
  simp only [aC]
  repeat (first|refine ag ?_|refine bU ?_|refine af ?_|refine dD ?_|refine dJ ?_|refine FC (eV rfl) aJ ⟨rfl,rfl⟩ Jc (by rfl) ?_|refine gq aJ rfl ?_|refine di ?_)
  refine ax ?_
  exact ⟨_,_,rfl,rfl,by rw [hn];rfl⟩
 ·by_cases h1:at_<w.length
  ·by_cases h2:w.getD at_.toNat 0=a.i
   ·have hn:iV w G a at_=((a.t,at_+1),decide ((a.t,at_+1)∈G)):=by simp only [iV,if_neg hi,if_pos (show at_<w.length/\w.getD at_.toNat 0=a.i from ⟨h1,h2⟩)]
    repeat (first|refine ag ?_|refine aY ?_|refine af ?_|refine dH ?_|refine au ?_|refine ah ?_|refine ae ?_|refine aA ?_|refine aI ?_|refine fF ?_|refine bY dZ ?_)
    refine fB bK bK (fun _ _ _=>False) ?_
    repeat (first|refine ag ?_|refine aQ ?_|refine aT ?_|refine bU ?_|refine aY ?_|refine af ?_|refine az ?_|refine dH ?_|refine aO ?_|refine aP ?_|refine ak ?_|refine ah ?_|refine dD ?_|refine aI ?_|refine gq aJ rfl ?_)
    refine bM 0 [0,2,4,6] ⟨[(0,.ptr [.sl w.length (HL.ints w),.sl ll.length (dW ll),.rmap ⟨.ints 2,none⟩ (G.map pk) (jV G.length)] 0),(2,.int .i64 at_),(4,.ptr (aC a) 0),(6,.pref 0 [] 0)],[(0,.optr [.int .i64 0,.int .i64 0])],1⟩ rfl ?_
    refine kw [0,2,4] [6] bK bK (fun _ _ _=>False) (by simp [aH,HV.deep,bn,aC,nH,vO,BM]) (by simp [aH,HV.deep,bn]) ?_
    simp only [aC]
    repeat (first|refine ag ?_|refine bU ?_|refine af ?_|refine bz ?_|refine dD ?_|refine dJ ?_|refine FC (eV rfl) aJ ⟨rfl,rfl⟩ Jc (by rfl) ?_|refine gq aJ rfl ?_|refine di ?_)
    refine ax ?_
    exact ⟨_,_,rfl,rfl,by rw [hn];rfl⟩
   ·have hn:iV w G a at_=((0,0),false):=by simp only [iV,if_neg hi,if_neg (show ¬ (at_<w.length/\w.getD at_.toNat 0=a.i) from fun h=>h2 h.2)]
    repeat (first|refine ag ?_|refine aY ?_|refine af ?_|refine dH ?_|refine au ?_|refine ah ?_|refine ae ?_|refine aA ?_|refine aI ?_|refine fF ?_|refine bY dZ ?_)
    refine fB bK bK (fun _ _ _=>False) ?_
    repeat (first|refine ag ?_|refine aQ ?_|refine aT ?_|refine bU ?_|refine aY ?_|refine af ?_|refine az ?_|refine dH ?_|refine aO ?_|refine aP ?_|refine au ?_|refine ah ?_|refine ae ?_|refine aA ?_|refine dD ?_|refine aI ?_|refine dJ ?_|refine gq aJ rfl ?_|refine di ?_)
    refine ax ?_
    exact ⟨_,_,rfl,rfl,by rw [hn];rfl⟩
  ·have hn:iV w G a at_=((0,0),false):=by simp only [iV,if_neg hi,if_neg (show ¬ (at_<w.length/\w.getD at_.toNat 0=a.i) from fun h=>h1 h.1)]
   repeat (first|refine ag ?_|refine aY ?_|refine af ?_|refine dH ?_|refine au ?_|refine ah ?_|refine ae ?_|refine aA ?_|refine aI ?_|refine fF ?_|refine bY dZ ?_)
   refine fB bK bK (fun _ _ _=>False) ?_
   repeat (first|refine ag ?_|refine dm ?_|refine bU ?_|refine af ?_|refine az ?_|refine aK ?_|refine aP ?_|refine au ?_|refine ah ?_|refine ae ?_|refine aA ?_|refine dD ?_|refine dJ ?_|refine gq aJ rfl ?_|refine di ?_)
   refine ax ?_
   exact ⟨_,_,rfl,rfl,by rw [hn];rfl⟩
end Go.Proofs.Ytlbdmpjnmfmnfaa
