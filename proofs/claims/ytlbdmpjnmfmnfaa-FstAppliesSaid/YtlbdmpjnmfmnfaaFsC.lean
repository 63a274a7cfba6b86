import Derived.Test.YtlbdmpjnmfmnfaaFsB
import Derived.Test.YtlbdmpjnmfmnfaaHlRo
set_option linter.unusedSimpArgs false
set_option linter.unusedVariables false
namespace Go.Proofs.Ytlbdmpjnmfmnfaa
open Go.RowKit Go.HL Go.FS
theorem iF {fin:List Bool} {al:List A} (h:okF fin al=true):1<=fin.length/\fin.length<=2048/\al.length<=8192:=by
 simp only [okF,Bool.and_eq_true,decide_eq_true_eq] at h;exact h.1
theorem fE {fin:List Bool} {al:List A} (h:okF fin al=true) {a:A} (ha:a∈al):0<=a.f/\a.f<fin.length/\0<=a.t/\a.t<fin.length /\ -1<=a.i/\a.i<64 /\ -1<=a.o/\a.o<64:=by
 simp only [okF,Bool.and_eq_true,List.all_eq_true] at h;exact okA_iff.1 (h.2 a ha)
theorem gU {l:List A} {k:Nat} (h:k<l.length):l.getD k default∈l:=by
 rw [List.getD_eq_getElem?_getD,List.getElem?_eq_getElem h];exact List.getElem_mem h
theorem dE {α:Type} [Inhabited α] {l:List α} {k:Nat} (h:k<l.length):l.take (k+1)=l.take k++[l.getD k default]:=by
 rw [List.take_add_one];simp [h]
set_option maxHeartbeats 4000000 in
theorem Fj (fin:List Bool) (al:List A) (hv:okF fin al=true):HT Try.prog 64 [.agg (fK fin al)] (fun r=>r=.osl 1 fin.length (fA (bn (·.f) fin.length al))):=by
 obtain ⟨h1,h2,h3⟩:=iF hv
 refine HT.of rfl abu (Nat.le_of_ble_eq_true rfl) ?_
 unfold c64
 simp only [aX,Nat.reduceAdd,fK,gX]
 repeat (first|refine ah ?_|refine aS ?_|refine af ?_|refine aB ?_|refine au ?_|refine ae ?_|refine aA ?_|refine aZ ?_|refine aF ?_|refine di ?_|refine lH dN (by rfl) (by omega) aI aI ?_)
 rw [<- oQ (·.f)]
 refine bQ [1,3,11,12,13] (fun k:Nat=>k<=al.length)
  (fun k=>⟨[(1,.pref 0 [] 0),(3,.ref 1 [] 1 0 fin.length),(11,.sl al.length (recs aC al)),(12,.int .i64 al.length),(13,.int .i64 k)],[(0,.optr [.sl fin.length (HL.bools fin),.sl al.length (recs aC al)]),(1,.osl 1 fin.length (fA (bn (·.f) fin.length (al.take k))))],2⟩)
  (fun k=>al.length - k) 0 (by omega) rfl ?_
 intro k hk
 by_cases hkl:k<al.length
 ·have ha:=fE hv (gU hkl)
  have hlen:=fJ (·.f) fin.length (al.take k)
  have hrow:((bn (·.f) fin.length (al.take k)).getD (al.getD k default).f.toNat []).length<=8192:=Nat.le_trans oz (by simp;omega)
  have hst:=nD (p:=(·.f)) (n:=fin.length) (l:=al.take k) (a:=al.getD k default) (j:=(al.getD k default).f.toNat) (by omega)
  rw [<- dE hkl] at hst
  have hro:=rq (bn (·.f) fin.length (al.take k)) (al.getD k default).f.toNat ((bn (·.f) fin.length (al.take k)).getD (al.getD k default).f.toNat []++[al.getD k default]) .dead (n:=((bn (·.f) fin.length (al.take k)).getD (al.getD k default).f.toNat []).length+1) (by simp)
  rw [hst] at hro
  repeat (first|refine aJ ?_|refine af ?_|refine ay ?_|refine ak ?_|refine au ?_|refine ae ?_|refine aA ?_|refine aH ?_|refine bz ?_|refine dn ?_|refine bU dN ?_)
  refine bF 50 [1,3,5,11,12,13] ⟨[(1,.pref 0 [] 0),(3,.ref 1 [] 1 0 fin.length),(5,.ptr (aC (al.getD k default)) 0),(11,.sl al.length (recs aC al)),(12,.int .i64 al.length),(13,.int .i64 k)],[(0,.optr [.sl fin.length (HL.bools fin),.sl al.length (recs aC al)]),(1,.osl 1 fin.length (fA (bn (·.f) fin.length (al.take k))))],2⟩ rfl ?_
  unfold Pz
  refine iU [5] [3] bu bu (fun _ _ _=>False) (by simp [aV,HV.deep,bK,aC]) (by simp [aV,HV.deep,bK]) ?_
  simp only [aC]
  repeat (first|refine ah ?_|refine cZ ?_|refine dA (by rfl) aG (by (try simp (disch:=omega) only [go_sem,hro]);try rfl) ?_|refine dK (by rfl) aW (by (try simp (disch:=omega) only [go_sem,reduceIte,Nat.reduceEqDiff,Nat.reduceAdd,Nat.reduceMul,hro]);try rfl) aG (by (try simp (disch:=omega) only [go_sem,hro]);try rfl) aQ ?_|refine af ?_|refine eU (by rfl) (by rfl) (by (try simp (disch:=omega) only [go_sem,Int.reduceAdd,Int.reduceSub,Int.reduceMul,hro]);try rfl) ?_|refine ae ?_|refine dH ?_|refine aY ?_|refine gB (by rfl) aG (by (try simp (disch:=omega) only [go_sem,reduceIte,Nat.reduceEqDiff,Nat.reduceAdd,Nat.reduceMul,hro]);try rfl) ?_|refine kF (by rfl) aQ aI iW kG (by rfl) kX (by rfl) kY (by (try simp (disch:=omega) only [go_sem,reduceIte,Nat.reduceEqDiff,Nat.reduceAdd,Nat.reduceMul,hro]);try rfl) aG (by (try simp (disch:=omega) only [go_sem,hro]);try rfl) aI jk ?_|refine bP ?_|refine iM dN (by rfl) aQ l9 (by (try simp (disch:=omega) only [go_sem,reduceIte,Nat.reduceEqDiff,Nat.reduceAdd,Nat.reduceMul,hro]);try omega) aW (by (try simp (disch:=omega) only [go_sem,reduceIte,Nat.reduceEqDiff,Nat.reduceAdd,Nat.reduceMul,hro]);try rfl) dN (by omega) fP aG (by (try simp (disch:=omega) only [go_sem,reduceIte,Nat.reduceEqDiff,Nat.reduceAdd,Nat.reduceMul,hro]);try rfl) aI ?_)
  exact bZ [1,3,11,12,13] (k+1) hkl (by omega) rfl
 ·obtain rfl:k=al.length:=by omega
  rw [List.take_length]
  repeat (first|refine ah ?_|refine af ?_|refine ay ?_|refine bD (by rfl) ?_|refine ax ?_|refine au ?_|refine ae ?_)
  refine az ?_
  rfl
def pW (fin:List Bool) (k:Nat):List Int:=((List.range k).filter fun i=>fin.getD i false).map fun i:Nat=>(i:Int)
theorem uC (fin:List Bool) (k:Nat):pW fin (k+1)=if fin.getD k false=true then pW fin k++[(k:Int)] else pW fin k:=by
 unfold pW
 rw [List.range_succ,List.filter_append]
 cases h:fin.getD k false<;>rw [List.getD_eq_getElem?_getD] at h<;>simp [h]
theorem xO (fin:List Bool) (k:Nat):(pW fin k).length<=k:=by
 unfold pW
 rw [List.length_map]
 have:=List.length_filter_le (fun i=>fin.getD i false) (List.range k)
 simpa using this
theorem mem_finL {fin:List Bool} {p:Int}:p∈pW fin fin.length <-> isFin fin p:=by
 unfold pW isFin
 simp only [List.mem_map,List.mem_filter,List.mem_range]
 constructor
 ·rintro ⟨i,⟨h1,h2⟩,rfl⟩;exact ⟨by omega,by simpa using h2⟩
 ·rintro ⟨h1,h2⟩
  refine ⟨p.toNat,⟨?_,h2⟩,by omega⟩
  rcases Nat.lt_or_ge p.toNat fin.length with h|h
  ·exact h
  ·simp [List.getD_eq_getElem?_getD,List.getElem?_eq_none h] at h2
set_option maxHeartbeats 4000000 in
theorem Iw (fin:List Bool) (hf:fin.length<=100000):HT Try.prog 70 [.sl fin.length (HL.bools fin)] (fun r=>r=.osl 1 (pW fin fin.length).length (HL.ints (pW fin fin.length))):=by
 refine HT.of rfl aca (Nat.le_of_ble_eq_true rfl) ?_
 unfold c70
 simp only [aX,Nat.reduceAdd]
 repeat (first|refine ah ?_|refine af ?_|refine aB ?_|refine au ?_|refine ae ?_|refine aA ?_|refine aZ ?_)
 refine bQ [3,6,7,8] (fun s:Nat×Nat=>s.1<=fin.length/\(pW fin s.1).length=s.2)
  (fun s=>⟨[(3,.ref 0 [] 1 0 s.2),(6,.sl fin.length (HL.bools fin)),(7,.int .i64 fin.length),(8,.int .i64 s.1)],[(0,.osl 1 s.2 (HL.ints (pW fin s.1)))],1⟩)
  (fun s=>fin.length - s.1) (0,0) ⟨by simp,rfl⟩ rfl ?_
 rintro ⟨k,m⟩ ⟨hk,hm⟩
 simp only at hk hm ⊢
 by_cases hkl:k<fin.length
 ·have hst:=uC fin k
  have hfl:=xO fin k
  cases hb:fin.getD k false with
  | true =>
   rw [if_pos hb] at hst
   repeat (first|refine ah ?_|refine aJ ?_|refine dA (by rfl) aG (by (try simp (disch:=omega) only [go_sem,hb]);try rfl) ?_|refine af ?_|refine ay ?_|refine eU (by rfl) (by rfl) (by (try simp (disch:=omega) only [go_sem,Int.reduceAdd,Int.reduceSub,Int.reduceMul,hb]);try rfl) ?_|refine ak ?_|refine au ?_|refine ae ?_|refine aA ?_|refine dH ?_|refine aH ?_|refine bP ?_|refine iM dN (by rfl) aQ l9 (by (try simp (disch:=omega) only [go_sem,reduceIte,Nat.reduceEqDiff,Nat.reduceAdd,Nat.reduceMul,hb]);try omega) aW (by (try simp (disch:=omega) only [go_sem,reduceIte,Nat.reduceEqDiff,Nat.reduceAdd,Nat.reduceMul,hb]);try rfl) dN (by omega) fP aG (by (try simp (disch:=omega) only [go_sem,reduceIte,Nat.reduceEqDiff,Nat.reduceAdd,Nat.reduceMul,hb]);try rfl) aI ?_)
   exact bZ [3,6,7,8] (k+1,m+1) ⟨hkl,by rw [hst];simp [hm]⟩ dW (by simp only [hst];rfl)
  | false =>
   rw [if_neg (by rw [hb];simp)] at hst
   repeat (first|refine ah ?_|refine aJ ?_|refine dA (by rfl) aG (by (try simp (disch:=omega) only [go_sem,hb]);try rfl) ?_|refine af ?_|refine ay ?_|refine eU (by rfl) (by rfl) (by (try simp (disch:=omega) only [go_sem,Int.reduceAdd,Int.reduceSub,Int.reduceMul,hb]);try rfl) ?_|refine ak ?_|refine ax ?_|refine au ?_|refine ae ?_|refine aA ?_|refine dH ?_|refine aH ?_)
   exact bZ [3,6,7,8] (k+1,m) ⟨hkl,by rw [hst];exact hm⟩ dW (by simp only [hst];rfl)
 ·obtain rfl:k=fin.length:=by omega
  subst hm
  repeat (first|refine ah ?_|refine af ?_|refine ay ?_|refine bD (by rfl) ?_|refine ax ?_|refine au ?_|refine ae ?_)
  refine az ?_
  rfl
def iy (w:List Int) (G:List Nd) (a:A) (at_:Int):Nd×Bool :=
 if a.i = -1 then ((a.t,at_),decide ((a.t,at_)∈G))
 else if at_<w.length/\w.getD at_.toNat 0=a.i then ((a.t,at_+1),decide ((a.t,at_+1)∈G)) else ((0,0),false)
def runT (w:List Int) (ll:List (List A)) (G:List Nd):List HV:=[.sl w.length (HL.ints w),.sl ll.length (dL ll),.rmap ⟨.ints 2,none⟩ (G.map pk) (kU G.length)]
def pT (x:Nd):HV:=.agg (pC x)
theorem kJ (l:List Int):bK (HL.ints l)=[]:=by
 induction l with
 | nil=>rfl
 | cons x l ih=>simpa [HL.ints,bK,HV.deep] using ih
theorem uA {α:Type} {g:α->List HV} (h:∀x,bK (g x)=[]) (l:List α):bK (recs g l)=[]:=by
 induction l with
 | nil=>rfl
 | cons x l ih=>simp only [recs,List.flatMap_cons,oL,h,List.nil_append] at ih ⊢;exact ih
theorem xe (ll:List (List A)):bK (dL ll)=[]:=by
 induction ll with
 | nil=>rfl
 | cons l ll ih=>simp only [dL,List.map_cons,bK,gX,HV.deep,uA (g:=aC) (fun _=>rfl),List.nil_append] at ih ⊢;exact ih
theorem Bg (n:Nat):bK (kU n)=[]:=by
 induction n with
 | zero=>rfl
 | succ n ih=>simpa [kU,List.replicate_succ,bK,HV.deep] using ih
set_option maxHeartbeats 4000000 in
theorem Gm (w:List Int) (ll:List (List A)) (G:List Nd) (a:A) (at_:Int) (h0:0<=at_) (hw:w.length<=1024) (hat:at_<=w.length):HT Try.prog 99 [.ptr (runT w ll G) 0,.agg (aC a),.int .i64 at_] (fun r=>r=.tup [pT (iy w G a at_).1,.bool (iy w G a at_).2]):=by
 refine HT.ofC rfl abC [6,7] rfl (Nat.le_of_ble_eq_true rfl) ?_
 unfold c99
 simp only [aX,Nat.reduceAdd,runT,aC]
 by_cases hi:a.i = -1
 ·have hn:iy w G a at_=((a.t,at_),decide ((a.t,at_)∈G)):=by simp [iy,hi]
  repeat (first|refine ah ?_|refine aS ?_|refine af ?_|refine bC ?_|refine ak ?_|refine au ?_|refine ae ?_|refine aF ?_|refine di ?_|refine bU dN ?_)
  refine bF 0 [0,2,4,6] ⟨[(0,.ptr [.sl w.length (HL.ints w),.sl ll.length (dL ll),.rmap ⟨.ints 2,none⟩ (G.map pk) (kU G.length)] 0),(2,.int .i64 at_),(4,.ptr (aC a) 0),(6,.pref 0 [] 0)],[(0,.optr [.int .i64 0,.int .i64 0])],1⟩ rfl ?_
  refine iU [0,2,4] [6] bu bu (fun _ _ _=>False) (by simp [aV,HV.deep,bK,aC,kJ,xe,Bg]) (by simp [aV,HV.deep,bK]) ?_
  simp only [aC]
  repeat (first|refine ah ?_|refine dD ?_|refine af ?_|refine aY ?_|refine dn ?_|refine FX (eV rfl) aQ ⟨rfl,rfl⟩ Cf (by rfl) ?_|refine iD aQ rfl ?_|refine dB ?_)
  refine az ?_
  exact ⟨_,_,rfl,rfl,by rw [hn];rfl⟩
 ·by_cases h1:at_<w.length
  ·by_cases h2:w.getD at_.toNat 0=a.i
   ·have hn:iy w G a at_=((a.t,at_+1),decide ((a.t,at_+1)∈G)):=by simp only [iy,if_neg hi,if_pos (show at_<w.length/\w.getD at_.toNat 0=a.i from ⟨h1,h2⟩)]
    repeat (first|refine ah ?_|refine aS ?_|refine af ?_|refine bC ?_|refine ax ?_|refine au ?_|refine ae ?_|refine aH ?_|refine aF ?_|refine di ?_|refine bU dN ?_)
    refine dG bu bu (fun _ _ _=>False) ?_
    repeat (first|refine ah ?_|refine aO ?_|refine aJ ?_|refine dD ?_|refine aS ?_|refine af ?_|refine ay ?_|refine bC ?_|refine aK ?_|refine aB ?_|refine ak ?_|refine au ?_|refine aY ?_|refine aF ?_|refine iD aQ rfl ?_)
    refine bF 0 [0,2,4,6] ⟨[(0,.ptr [.sl w.length (HL.ints w),.sl ll.length (dL ll),.rmap ⟨.ints 2,none⟩ (G.map pk) (kU G.length)] 0),(2,.int .i64 at_),(4,.ptr (aC a) 0),(6,.pref 0 [] 0)],[(0,.optr [.int .i64 0,.int .i64 0])],1⟩ rfl ?_
    refine iU [0,2,4] [6] bu bu (fun _ _ _=>False) (by simp [aV,HV.deep,bK,aC,kJ,xe,Bg]) (by simp [aV,HV.deep,bK]) ?_
    simp only [aC]
    repeat (first|refine ah ?_|refine dD ?_|refine af ?_|refine bf ?_|refine aY ?_|refine dn ?_|refine FX (eV rfl) aQ ⟨rfl,rfl⟩ Cf (by rfl) ?_|refine iD aQ rfl ?_|refine dB ?_)
    refine az ?_
    exact ⟨_,_,rfl,rfl,by rw [hn];rfl⟩
   ·have hn:iy w G a at_=((0,0),false):=by simp only [iy,if_neg hi,if_neg (show ¬ (at_<w.length/\w.getD at_.toNat 0=a.i) from fun h=>h2 h.2)]
    repeat (first|refine ah ?_|refine aS ?_|refine af ?_|refine bC ?_|refine ax ?_|refine au ?_|refine ae ?_|refine aH ?_|refine aF ?_|refine di ?_|refine bU dN ?_)
    refine dG bu bu (fun _ _ _=>False) ?_
    repeat (first|refine ah ?_|refine aO ?_|refine aJ ?_|refine dD ?_|refine aS ?_|refine af ?_|refine ay ?_|refine bC ?_|refine aK ?_|refine aB ?_|refine ax ?_|refine au ?_|refine ae ?_|refine aH ?_|refine aY ?_|refine aF ?_|refine dn ?_|refine iD aQ rfl ?_|refine dB ?_)
    refine az ?_
    exact ⟨_,_,rfl,rfl,by rw [hn];rfl⟩
  ·have hn:iy w G a at_=((0,0),false):=by simp only [iy,if_neg hi,if_neg (show ¬ (at_<w.length/\w.getD at_.toNat 0=a.i) from fun h=>h1 h.1)]
   repeat (first|refine ah ?_|refine aS ?_|refine af ?_|refine bC ?_|refine ax ?_|refine au ?_|refine ae ?_|refine aH ?_|refine aF ?_|refine di ?_|refine bU dN ?_)
   refine dG bu bu (fun _ _ _=>False) ?_
   repeat (first|refine ah ?_|refine cu ?_|refine dD ?_|refine af ?_|refine ay ?_|refine aN ?_|refine aB ?_|refine ax ?_|refine au ?_|refine ae ?_|refine aH ?_|refine aY ?_|refine dn ?_|refine iD aQ rfl ?_|refine dB ?_)
   refine az ?_
   exact ⟨_,_,rfl,rfl,by rw [hn];rfl⟩
end Go.Proofs.Ytlbdmpjnmfmnfaa
