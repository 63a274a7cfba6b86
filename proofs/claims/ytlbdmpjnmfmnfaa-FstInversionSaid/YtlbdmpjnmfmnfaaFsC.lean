import Derived.Test.YtlbdmpjnmfmnfaaFsB
import Derived.Test.YtlbdmpjnmfmnfaaHlRo
set_option linter.unusedSimpArgs false
set_option linter.unusedVariables false
namespace Go.Proofs.Ytlbdmpjnmfmnfaa
open Go.RowKit Go.HL Go.FS
theorem jZ {fin:List Bool} {al:List A} (h:okF fin al=true):1<=fin.length/\fin.length<=2048/\al.length<=8192:=by
 simp only [okF,Bool.and_eq_true,decide_eq_true_eq] at h;exact h.1
theorem gJ {fin:List Bool} {al:List A} (h:okF fin al=true) {a:A} (ha:a∈al):0<=a.f/\a.f<fin.length/\0<=a.t/\a.t<fin.length /\ -1<=a.i/\a.i<64 /\ -1<=a.o/\a.o<64:=by
 simp only [okF,Bool.and_eq_true,List.all_eq_true] at h;exact okA_iff.1 (h.2 a ha)
theorem l9 {l:List A} {k:Nat} (h:k<l.length):l.getD k default∈l:=by
 rw [List.getD_eq_getElem?_getD,List.getElem?_eq_getElem h];exact List.getElem_mem h
theorem dC {α:Type} [Inhabited α] {l:List α} {k:Nat} (h:k<l.length):l.take (k+1)=l.take k++[l.getD k default]:=by
 rw [List.take_add_one];simp [h]
set_option maxHeartbeats 4000000 in
theorem Ed (fin:List Bool) (al:List A) (hv:okF fin al=true):HT Try.prog 64 [.agg (gQ fin al)] (fun r=>r=.osl 1 fin.length (eG (bz (·.f) fin.length al))):=by
 obtain ⟨h1,h2,h3⟩:=jZ hv
 refine HT.of rfl Xh (Nat.le_of_ble_eq_true rfl) ?_
 unfold c64
 simp only [aS,Nat.reduceAdd,gQ,jC]
 repeat (first|refine ag ?_|refine aV ?_|refine af ?_|refine bY (by rfl) ?_|refine ah ?_|refine ae ?_|refine aH ?_|refine dR rfl (by rfl) dI ?_|refine aJ ?_|refine fC ?_|refine Dy dI (by rfl) (by omega) aQ aQ ?_)
 rw [<- wu (·.f)]
 refine cu [1,3,11,12,13] (fun k:Nat=>k<=al.length)
  (fun k=>⟨[(1,.pref 0 [] 0),(3,.ref 1 [] 1 0 fin.length),(11,.sl al.length (recs aC al)),(12,.int .i64 al.length),(13,.int .i64 k)],[(0,.optr [.sl fin.length (HL.bools fin),.sl al.length (recs aC al)]),(1,.osl 1 fin.length (eG (bz (·.f) fin.length (al.take k))))],2⟩)
  (fun k=>al.length - k) 0 (by omega) rfl ?_
 intro k hk
 by_cases hkl:k<al.length
 ·have ha:=gJ hv (l9 hkl)
  have hlen:=gB (·.f) fin.length (al.take k)
  have hrow:((bz (·.f) fin.length (al.take k)).getD (al.getD k default).f.toNat []).length<=8192:=Nat.le_trans vN (by simp;omega)
  have hst:=ul (p:=(·.f)) (n:=fin.length) (l:=al.take k) (a:=al.getD k default) (j:=(al.getD k default).f.toNat) (by omega)
  rw [<- dC hkl] at hst
  have hro:=xN (bz (·.f) fin.length (al.take k)) (al.getD k default).f.toNat ((bz (·.f) fin.length (al.take k)).getD (al.getD k default).f.toNat []++[al.getD k default]) .dead (n:=((bz (·.f) fin.length (al.take k)).getD (al.getD k default).f.toNat []).length+1) (by simp)
  rw [hst] at hro
  repeat (first|refine aZ ?_|refine af ?_|refine az ?_|refine au ?_|refine ah ?_|refine ae ?_|refine aH ?_|refine aF ?_|refine bG ?_|refine dG ?_|refine bP dI ?_)
  refine bT 50 [1,3,5,11,12,13] ⟨[(1,.pref 0 [] 0),(3,.ref 1 [] 1 0 fin.length),(5,.ptr (aC (al.getD k default)) 0),(11,.sl al.length (recs aC al)),(12,.int .i64 al.length),(13,.int .i64 k)],[(0,.optr [.sl fin.length (HL.bools fin),.sl al.length (recs aC al)]),(1,.osl 1 fin.length (eG (bz (·.f) fin.length (al.take k))))],2⟩ rfl ?_
  unfold NR
  refine kE [5] [3] bM bM (fun _ _ _=>False) (by simp [aG,HV.deep,bf,aC]) (by simp [aG,HV.deep,bf]) ?_
  simp only [aC]
  repeat (first|refine ag ?_|refine nT (by rfl) (by rfl) (by omega) dI ?_|refine iL (by rfl) aT (by (try simp (disch:=omega) only [go_sem,hro]);try rfl) ?_|refine iq (by rfl) bH (by (try simp (disch:=omega) only [go_sem,reduceIte,Nat.reduceEqDiff,Nat.reduceAdd,Nat.reduceMul,hro]);try rfl) aT (by (try simp (disch:=omega) only [go_sem,hro]);try rfl) aO ?_|refine af ?_|refine jI (by rfl) (by rfl) (by (try simp (disch:=omega) only [go_sem,Int.reduceAdd,Int.reduceSub,Int.reduceMul,hro]);try rfl) ?_|refine ae ?_|refine fE ?_|refine dw ?_|refine pG (by rfl) aT (by (try simp (disch:=omega) only [go_sem,reduceIte,Nat.reduceEqDiff,Nat.reduceAdd,Nat.reduceMul,hro]);try rfl) ?_|refine mi (by rfl) aO aQ jJ mP (by rfl) nX (by rfl) nV (by (try simp (disch:=omega) only [go_sem,reduceIte,Nat.reduceEqDiff,Nat.reduceAdd,Nat.reduceMul,hro]);try rfl) aT (by (try simp (disch:=omega) only [go_sem,hro]);try rfl) aQ jq ?_|refine bW ?_|refine lW dI (by rfl) aO rE (by (try simp (disch:=omega) only [go_sem,reduceIte,Nat.reduceEqDiff,Nat.reduceAdd,Nat.reduceMul,hro]);try omega) bH (by (try simp (disch:=omega) only [go_sem,reduceIte,Nat.reduceEqDiff,Nat.reduceAdd,Nat.reduceMul,hro]);try rfl) dI (by omega) gX aT (by (try simp (disch:=omega) only [go_sem,reduceIte,Nat.reduceEqDiff,Nat.reduceAdd,Nat.reduceMul,hro]);try rfl) aQ ?_)
  exact dm [1,3,11,12,13] (k+1) hkl (by omega) rfl
 ·obtain rfl:k=al.length:=by omega
  rw [List.take_length]
  repeat (first|refine ag ?_|refine af ?_|refine az ?_|refine bK (by rfl) ?_|refine ak ?_|refine ah ?_|refine ae ?_)
  refine ax ?_
  rfl
def qw (fin:List Bool) (k:Nat):List Int:=((List.range k).filter fun i=>fin.getD i false).map fun i:Nat=>(i:Int)
theorem F6 (fin:List Bool) (k:Nat):qw fin (k+1)=if fin.getD k false=true then qw fin k++[(k:Int)] else qw fin k:=by
 unfold qw
 rw [List.range_succ,List.filter_append]
 cases h:fin.getD k false<;>rw [List.getD_eq_getElem?_getD] at h<;>simp [h]
theorem AC (fin:List Bool) (k:Nat):(qw fin k).length<=k:=by
 unfold qw
 rw [List.length_map]
 have:=List.length_filter_le (fun i=>fin.getD i false) (List.range k)
 simpa using this
theorem mem_finL {fin:List Bool} {p:Int}:p∈qw fin fin.length <-> isFin fin p:=by
 unfold qw isFin
 simp only [List.mem_map,List.mem_filter,List.mem_range]
 constructor
 ·rintro ⟨i,⟨h1,h2⟩,rfl⟩;exact ⟨by omega,by simpa using h2⟩
 ·rintro ⟨h1,h2⟩
  refine ⟨p.toNat,⟨?_,h2⟩,by omega⟩
  rcases Nat.lt_or_ge p.toNat fin.length with h|h
  ·exact h
  ·simp [List.getD_eq_getElem?_getD,List.getElem?_eq_none h] at h2
set_option maxHeartbeats 4000000 in
theorem GV (fin:List Bool) (hf:fin.length<=100000):HT Try.prog 70 [.sl fin.length (HL.bools fin)] (fun r=>r=.osl 1 (qw fin fin.length).length (HL.ints (qw fin fin.length))):=by
 refine HT.of rfl Xk (Nat.le_of_ble_eq_true rfl) ?_
 unfold c70
 simp only [aS,Nat.reduceAdd]
 repeat (first|refine ag ?_|refine af ?_|refine bY (by rfl) ?_|refine ah ?_|refine ae ?_|refine aH ?_|refine dR rfl (by rfl) dI ?_)
 refine cu [3,6,7,8] (fun s:Nat×Nat=>s.1<=fin.length/\(qw fin s.1).length=s.2)
  (fun s=>⟨[(3,.ref 0 [] 1 0 s.2),(6,.sl fin.length (HL.bools fin)),(7,.int .i64 fin.length),(8,.int .i64 s.1)],[(0,.osl 1 s.2 (HL.ints (qw fin s.1)))],1⟩)
  (fun s=>fin.length - s.1) (0,0) ⟨by simp,rfl⟩ rfl ?_
 rintro ⟨k,m⟩ ⟨hk,hm⟩
 simp only at hk hm ⊢
 by_cases hkl:k<fin.length
 ·have hst:=F6 fin k
  have hfl:=AC fin k
  cases hb:fin.getD k false with
  | true =>
   rw [if_pos hb] at hst
   repeat (first|refine ag ?_|refine aZ ?_|refine iL (by rfl) aT (by (try simp (disch:=omega) only [go_sem,hb]);try rfl) ?_|refine af ?_|refine az ?_|refine jI (by rfl) (by rfl) (by (try simp (disch:=omega) only [go_sem,Int.reduceAdd,Int.reduceSub,Int.reduceMul,hb]);try rfl) ?_|refine au ?_|refine ah ?_|refine ae ?_|refine aH ?_|refine fE ?_|refine aF ?_|refine bW ?_|refine lW dI (by rfl) aO rE (by (try simp (disch:=omega) only [go_sem,reduceIte,Nat.reduceEqDiff,Nat.reduceAdd,Nat.reduceMul,hb]);try omega) bH (by (try simp (disch:=omega) only [go_sem,reduceIte,Nat.reduceEqDiff,Nat.reduceAdd,Nat.reduceMul,hb]);try rfl) dI (by omega) gX aT (by (try simp (disch:=omega) only [go_sem,reduceIte,Nat.reduceEqDiff,Nat.reduceAdd,Nat.reduceMul,hb]);try rfl) aQ ?_)
   exact dm [3,6,7,8] (k+1,m+1) ⟨hkl,by rw [hst];simp [hm]⟩ iU (by simp only [hst];rfl)
  | false =>
   rw [if_neg (by rw [hb];simp)] at hst
   repeat (first|refine ag ?_|refine aZ ?_|refine iL (by rfl) aT (by (try simp (disch:=omega) only [go_sem,hb]);try rfl) ?_|refine af ?_|refine az ?_|refine jI (by rfl) (by rfl) (by (try simp (disch:=omega) only [go_sem,Int.reduceAdd,Int.reduceSub,Int.reduceMul,hb]);try rfl) ?_|refine au ?_|refine ak ?_|refine ah ?_|refine ae ?_|refine aH ?_|refine fE ?_|refine aF ?_)
   exact dm [3,6,7,8] (k+1,m) ⟨hkl,by rw [hst];exact hm⟩ iU (by simp only [hst];rfl)
 ·obtain rfl:k=fin.length:=by omega
  subst hm
  repeat (first|refine ag ?_|refine af ?_|refine az ?_|refine bK (by rfl) ?_|refine ak ?_|refine ah ?_|refine ae ?_)
  refine ax ?_
  rfl
def iM (w:List Int) (G:List Nd) (a:A) (at_:Int):Nd×Bool :=
 if a.i = -1 then ((a.t,at_),decide ((a.t,at_)∈G))
 else if at_<w.length/\w.getD at_.toNat 0=a.i then ((a.t,at_+1),decide ((a.t,at_+1)∈G)) else ((0,0),false)
def runT (w:List Int) (ll:List (List A)) (G:List Nd):List HV:=[.sl w.length (HL.ints w),.sl ll.length (dV ll),.rmap ⟨.ints 2,none⟩ (G.map pk) (jU G.length)]
def pT (x:Nd):HV:=.agg (pC x)
theorem nN (l:List Int):bf (HL.ints l)=[]:=by
 induction l with
 | nil=>rfl
 | cons x l ih=>simpa [HL.ints,bf,HV.deep] using ih
theorem sS {α:Type} {g:α->List HV} (h:∀x,bf (g x)=[]) (l:List α):bf (recs g l)=[]:=by
 induction l with
 | nil=>rfl
 | cons x l ih=>simp only [recs,List.flatMap_cons,mZ,h,List.nil_append] at ih ⊢;exact ih
theorem vM (ll:List (List A)):bf (dV ll)=[]:=by
 induction ll with
 | nil=>rfl
 | cons l ll ih=>simp only [dV,List.map_cons,bf,jC,HV.deep,sS (g:=aC) (fun _=>rfl),List.nil_append] at ih ⊢;exact ih
theorem BN (n:Nat):bf (jU n)=[]:=by
 induction n with
 | zero=>rfl
 | succ n ih=>simpa [jU,List.replicate_succ,bf,HV.deep] using ih
set_option maxHeartbeats 4000000 in
theorem EU (w:List Int) (ll:List (List A)) (G:List Nd) (a:A) (at_:Int) (h0:0<=at_) (hw:w.length<=1024) (hat:at_<=w.length):HT Try.prog 99 [.ptr (runT w ll G) 0,.agg (aC a),.int .i64 at_] (fun r=>r=.tup [pT (iM w G a at_).1,.bool (iM w G a at_).2]):=by
 refine HT.ofC rfl XB [6,7] rfl (Nat.le_of_ble_eq_true rfl) ?_
 unfold XZ
 simp only [aS,Nat.reduceAdd,runT,aC]
 by_cases hi:a.i = -1
 ·have hn:iM w G a at_=((a.t,at_),decide ((a.t,at_)∈G)):=by simp [iM,hi]
  repeat (first|refine ag ?_|refine aV ?_|refine af ?_|refine bQ ?_|refine au ?_|refine ah ?_|refine ae ?_|refine aJ ?_|refine fC ?_|refine bP dI ?_)
  refine bT 0 [0,2,4,6] ⟨[(0,.ptr [.sl w.length (HL.ints w),.sl ll.length (dV ll),.rmap ⟨.ints 2,none⟩ (G.map pk) (jU G.length)] 0),(2,.int .i64 at_),(4,.ptr (aC a) 0),(6,.pref 0 [] 0)],[(0,.optr [.int .i64 0,.int .i64 0])],1⟩ rfl ?_
  refine kE [0,2,4] [6] bM bM (fun _ _ _=>False) (by simp [aG,HV.deep,bf,aC,nN,vM,BN]) (by simp [aG,HV.deep,bf]) ?_
  simp only [aC]
  repeat (first|refine ag ?_|refine dP ?_|refine af ?_|refine dw ?_|refine dG ?_|refine Fa (eV rfl) aO ⟨rfl,rfl⟩ Fj (by rfl) ?_|refine fV aO rfl ?_|refine cZ ?_)
  refine ax ?_
  exact ⟨_,_,rfl,rfl,by rw [hn];rfl⟩
 ·by_cases h1:at_<w.length
  ·by_cases h2:w.getD at_.toNat 0=a.i
   ·have hn:iM w G a at_=((a.t,at_+1),decide ((a.t,at_+1)∈G)):=by simp only [iM,if_neg hi,if_pos (show at_<w.length/\w.getD at_.toNat 0=a.i from ⟨h1,h2⟩)]
    repeat (first|refine ag ?_|refine aV ?_|refine af ?_|refine bQ ?_|refine ak ?_|refine ah ?_|refine ae ?_|refine aF ?_|refine aJ ?_|refine fC ?_|refine bP dI ?_)
    refine fM bM bM (fun _ _ _=>False) ?_
    repeat (first|refine ag ?_|refine aK ?_|refine aZ ?_|refine dP ?_|refine aV ?_|refine af ?_|refine az ?_|refine bQ ?_|refine aN ?_|refine bY (by rfl) ?_|refine au ?_|refine ah ?_|refine dw ?_|refine aJ ?_|refine fV aO rfl ?_)
    refine bT 0 [0,2,4,6] ⟨[(0,.ptr [.sl w.length (HL.ints w),.sl ll.length (dV ll),.rmap ⟨.ints 2,none⟩ (G.map pk) (jU G.length)] 0),(2,.int .i64 at_),(4,.ptr (aC a) 0),(6,.pref 0 [] 0)],[(0,.optr [.int .i64 0,.int .i64 0])],1⟩ rfl ?_
    refine kE [0,2,4] [6] bM bM (fun _ _ _=>False) (by simp [aG,HV.deep,bf,aC,nN,vM,BN]) (by simp [aG,HV.deep,bf]) ?_
    simp only [aC]
    repeat (first|refine ag ?_|refine dP ?_|refine af ?_|refine bu ?_|refine dw ?_|refine dG ?_|refine Fa (eV rfl) aO ⟨rfl,rfl⟩ Fj (by rfl) ?_|refine fV aO rfl ?_|refine cZ ?_)
    refine ax ?_
    exact ⟨_,_,rfl,rfl,by rw [hn];rfl⟩
   ·have hn:iM w G a at_=((0,0),false):=by simp only [iM,if_neg hi,if_neg (show ¬ (at_<w.length/\w.getD at_.toNat 0=a.i) from fun h=>h2 h.2)]
    repeat (first|refine ag ?_|refine aV ?_|refine af ?_|refine bQ ?_|refine ak ?_|refine ah ?_|refine ae ?_|refine aF ?_|refine aJ ?_|refine fC ?_|refine bP dI ?_)
    refine fM bM bM (fun _ _ _=>False) ?_
    repeat (first|refine ag ?_|refine aK ?_|refine aZ ?_|refine dP ?_|refine aV ?_|refine af ?_|refine az ?_|refine bQ ?_|refine aN ?_|refine bY (by rfl) ?_|refine ak ?_|refine ah ?_|refine ae ?_|refine aF ?_|refine dw ?_|refine aJ ?_|refine dG ?_|refine fV aO rfl ?_|refine cZ ?_)
    refine ax ?_
    exact ⟨_,_,rfl,rfl,by rw [hn];rfl⟩
  ·have hn:iM w G a at_=((0,0),false):=by simp only [iM,if_neg hi,if_neg (show ¬ (at_<w.length/\w.getD at_.toNat 0=a.i) from fun h=>h1 h.1)]
   repeat (first|refine ag ?_|refine aV ?_|refine af ?_|refine bQ ?_|refine ak ?_|refine ah ?_|refine ae ?_|refine aF ?_|refine aJ ?_|refine fC ?_|refine bP dI ?_)
   refine fM bM bM (fun _ _ _=>False) ?_
   repeat (first|refine ag ?_|refine bV ?_|refine dP ?_|refine af ?_|refine az ?_|refine aI ?_|refine bY (by rfl) ?_|refine ak ?_|refine ah ?_|refine ae ?_|refine aF ?_|refine dw ?_|refine dG ?_|refine fV aO rfl ?_|refine cZ ?_)
   refine ax ?_
   exact ⟨_,_,rfl,rfl,by rw [hn];rfl⟩
end Go.Proofs.Ytlbdmpjnmfmnfaa
