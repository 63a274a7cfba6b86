import Derived.Test.YtlbdmpjnmfmnfaaFs4
import Derived.Test.YtlbdmpjnmfmnfaaFs7
set_option linter.unusedSimpArgs false
set_option linter.unusedVariables false
namespace Go.Proofs.Ytlbdmpjnmfmnfaa
open Go.RowKit Go.HL Go.FS
section
variable {k:Nat->Bool}
theorem Ed {j n:Nat} (hj:j<n) (hk:k j=true):∃r,(List.range n).filter k=(List.range j).filter k++j::r:=by
 obtain ⟨m,rfl⟩:∃m,n=j+(m+1):=⟨n - j - 1,by omega⟩
 refine ⟨((List.range m).map fun x=>j+(x+1)).filter k,?_⟩
 rw [List.range_add,List.filter_append]
 congr 1
 rw [List.range_succ_eq_map,List.map_cons,List.filter_cons_of_pos (by simpa using hk),List.map_map]
 rfl
theorem xq {j n:Nat} (hj:j<n) (hk:k j=true):((List.range n).filter k)[cnt k j]?=some j:=by
 obtain ⟨r,hr⟩:=Ed hj hk
 rw [hr]
 show ((List.range j).filter k++j::r)[((List.range j).filter k).length]?=_
 rw [List.getElem?_append_right (Nat.le_refl _)]
 simp
theorem cnt_lt {j n:Nat} (hj:j<n) (hk:k j=true):cnt k j<cnt k n:=by
 have:=xq hj hk
 exact (List.getElem?_eq_some_iff.1 this).1
theorem KG {n i:Nat} (hi:i<cnt k n):∃j,j<n/\k j=true/\cnt k j=i:=by
 have hi':i<((List.range n).filter k).length:=hi
 have hm:((List.range n).filter k)[i]∈(List.range n).filter k:=List.getElem_mem hi'
 obtain ⟨j,hje⟩:∃j,((List.range n).filter k)[i]=j:=⟨_,rfl⟩
 rw [hje] at hm
 obtain ⟨h1,h2⟩:=List.mem_filter.1 hm
 have h1:j<n:=by simpa using h1
 refine ⟨j,h1,h2,?_⟩
 have h3:=xq h1 h2
 obtain ⟨h4,h5⟩:=List.getElem?_eq_some_iff.1 h3
 have hn:((List.range n).filter k).Nodup:=List.Pairwise.filter _ List.nodup_range
 have h6:=List.pairwise_iff_getElem.1 hn
 rcases Nat.lt_trichotomy (cnt k j) i with h|h|h
 ·exact absurd (h5.trans hje.symm) (h6 _ _ h4 hi' h)
 ·exact h
 ·exact absurd (h5.trans hje.symm).symm (h6 _ _ hi' h4 h)
theorem Lt {fin:List Bool} {j n:Nat} (hj:j<n) (hk:k j=true):(gZ k fin n).getD (cnt k j) false=fin.getD j false:=by
 unfold gZ
 rw [List.getD_eq_getElem?_getD,List.getElem?_map,xq hj hk];rfl
theorem JR:cnt k 0=0:=rfl
theorem mem_arcT {l:List A} {b:A}:b∈jF k l <-> ∃a∈l,k a.f.toNat=true/\k a.t.toNat=true/\b=⟨cnt k a.f.toNat,a.i,a.o,cnt k a.t.toNat⟩:=by
 unfold jF
 rw [List.mem_filterMap]
 constructor
 ·rintro ⟨a,ha,h⟩
  split at h
  ·rename_i hc
   rw [Bool.and_eq_true] at hc
   exact ⟨a,ha,hc.1,hc.2,by simpa using h.symm⟩
  ·cases h
 ·rintro ⟨a,ha,h1,h2,rfl⟩
  exact ⟨a,ha,by rw [h1,h2];rfl⟩
end
section
variable {fin:List Bool} {al:List A}
abbrev Zu (al:List A) (j:Nat):Prop:=Rc al (·.f) (·.t) (·=0) j
abbrev O5 (fin:List Bool) (al:List A) (j:Nat):Prop:=Rc al (·.t) (·.f) (fun j=>fin.getD j false=true) j
theorem KJ {j:Nat} (h:Zu al j) (hl:O5 fin al j):Zu (jF (fQ fin al) al) (cnt (fQ fin al) j):=by
 induction h with
 | on h=>subst h;exact .on rfl
 | @step a ha hr ih =>
  have hlf:O5 fin al a.f.toNat:=.step (p:=(·.t)) (q:=(·.f)) ha hl
  have h2:=ih hlf
  have:=Rc.step (p:=(·.f)) (q:=(·.t)) (al:=jF (fQ fin al) al) (S:=(·=0)) (a:=⟨cnt (fQ fin al) a.f.toNat,a.i,a.o,cnt (fQ fin al) a.t.toNat⟩) (mem_arcT.2 ⟨a,ha,kpF_iff.2 ⟨hr,hlf⟩,kpF_iff.2 ⟨.step (p:=(·.f)) (q:=(·.t)) ha hr,hl⟩,rfl⟩) (by simpa only [Int.toNat_natCast] using h2)
  simpa only [Int.toNat_natCast] using this
theorem Sj {j:Nat} (hv:okF fin al=true) (h:O5 fin al j):j<fin.length:=by
 cases h with
 | on h =>
  rcases Nat.lt_or_ge j fin.length with h1|h1
  ·exact h1
  ·rw [List.getD_eq_getElem?_getD,List.getElem?_eq_none h1] at h;cases h
 | step ha _=>have:=eU hv ha;omega
theorem Ak (hv:okF fin al=true) {j:Nat} (h:O5 fin al j) (hr:Zu al j):O5 (gZ (fQ fin al) fin fin.length) (jF (fQ fin al) al) (cnt (fQ fin al) j):=by
 have hl0:=h
 induction h with
 | @on j h =>
  refine .on ?_
  show (gZ (fQ fin al) fin fin.length).getD (cnt (fQ fin al) j) false=true
  rw [Lt (Sj hv hl0) (kpF_iff.2 ⟨hr,hl0⟩)]
  exact h
 | @step a ha hl ih =>
  have hrt:Zu al a.t.toNat:=.step (p:=(·.f)) (q:=(·.t)) ha hr
  have h2:=ih hrt hl
  have:=Rc.step (p:=(·.t)) (q:=(·.f)) (al:=jF (fQ fin al) al) (S:=fun j=>(gZ (fQ fin al) fin fin.length).getD j false=true) (a:=⟨cnt (fQ fin al) a.f.toNat,a.i,a.o,cnt (fQ fin al) a.t.toNat⟩) (mem_arcT.2 ⟨a,ha,kpF_iff.2 ⟨hr,hl0⟩,kpF_iff.2 ⟨hrt,hl⟩,rfl⟩) (by simpa only [Int.toNat_natCast] using h2)
  simpa only [Int.toNat_natCast] using this
theorem Jh {fin:List Bool} {al:List A} (h1:1<=fin.length) (h2:fin.length<=2048) (h3:al.length<=8192) (h4:∀a∈al,0<=a.f/\a.f<fin.length/\0<=a.t/\a.t<fin.length /\ -1<=a.i/\a.i<64 /\ -1<=a.o/\a.o<64):okF fin al=true:=by
 simp only [okF,Bool.and_eq_true,decide_eq_true_eq,List.all_eq_true]
 exact ⟨⟨h1,h2,h3⟩,fun a ha=>okA_iff.2 (h4 a ha)⟩
theorem Jd {k:Nat->Bool} {f:List Bool} (h:∀i,i<f.length->k i=true):gZ k f f.length=f:=by
 unfold gZ
 have:(List.range f.length).filter k=List.range f.length:=List.filter_eq_self.2 fun i hi=>h i (by simpa using hi)
 rw [this]
 apply List.ext_getElem?
 intro i
 rw [List.getElem?_map]
 by_cases hi:i<f.length
 ·simp [List.getElem?_range hi,hi]
 ·simp [hi]
theorem FN {k:Nat->Bool} {n i:Nat} (h:∀i,i<n->k i=true) (hi:i<=n):cnt k i=i:=by
 unfold cnt
 have:(List.range i).filter k=List.range i:=List.filter_eq_self.2 fun j hj=>h j (by have:=List.mem_range.1 hj;omega)
 rw [this,List.length_range]
theorem Ld {k:Nat->Bool} {n:Nat} {l:List A} (h:∀i,i<n->k i=true) (hl:∀a∈l,0<=a.f/\a.f<n/\0<=a.t/\a.t<n):jF k l=l:=by
 induction l with
 | nil=>rfl
 | cons a l ih =>
  have ha:=hl a (by simp)
  have h1:=h a.f.toNat (by omega)
  have h2:=h a.t.toNat (by omega)
  have e:=ih fun b hb=>hl b (by simp [hb])
  unfold jF at e ⊢
  rw [List.filterMap_cons,h1,h2]
  simp only [Bool.and_self,if_true]
  rw [e,FN h (by omega),FN h (by omega),Int.toNat_of_nonneg ha.1,Int.toNat_of_nonneg ha.2.2.1]
theorem NP (hv:okF fin al=true) (h0:O5 fin al 0):okF (gZ (fQ fin al) fin fin.length) (jF (fQ fin al) al)=true:=by
 obtain ⟨h1,h2,h3⟩:=jf hv
 have hk0:fQ fin al 0=true:=kpF_iff.2 ⟨.on rfl,h0⟩
 have hc:=cnt_lt (k:=fQ fin al) (j:=0) (n:=fin.length) (by omega) hk0
 have hcl:=cnt_le (k:=fQ fin al) (i:=fin.length)
 have hal:=tJ (k:=fQ fin al) al
 refine Jh (by rw [kz];omega) (by rw [kz];omega) (by omega) fun b hb=>?_
 obtain ⟨a,ha,g1,g2,rfl⟩:=mem_arcT.1 hb
 have:=eU hv ha
 have c1:=cnt_lt (n:=fin.length) (by omega) g1
 have c2:=cnt_lt (n:=fin.length) (by omega) g2
 rw [kz]
 simp only
 omega
theorem Qd (j:Nat):¬ O5 [false] [] j:=fun h=>by
 induction h with
 | @on j h=>cases j<;>simp at h
 | step ha=>cases ha
theorem wK (fin:List Bool) (al:List A):trimF (trimF fin al).1 (trimF fin al).2=trimF fin al:=by
 by_cases hv:okF fin al=true
 ·by_cases h0:O5 fin al 0
  ·have ht:trimF fin al=(gZ (fQ fin al) fin fin.length,jF (fQ fin al) al):=by unfold trimF;rw [if_pos hv,if_pos h0]
   rw [ht]
   simp only
   have hok:=NP hv h0
   have hl0:=Ak hv h0 (.on rfl)
   rw [JR] at hl0
   have hall:∀i,i<(gZ (fQ fin al) fin fin.length).length->fQ (gZ (fQ fin al) fin fin.length) (jF (fQ fin al) al) i=true:=fun i hi=>by
    rw [kz] at hi
    obtain ⟨j,h1,h2,rfl⟩:=KG hi
    obtain ⟨h3,h4⟩:=kpF_iff.1 h2
    exact kpF_iff.2 ⟨KJ h3 h4,Ak hv h4 h3⟩
   unfold trimF
   rw [if_pos hok,if_pos hl0,Jd hall,Ld hall fun a ha=>by have:=eU hok ha;omega]
  ·have ht:trimF fin al=([false],[]):=by unfold trimF;rw [if_pos hv,if_neg h0]
   rw [ht]
   simp only
   unfold trimF
   rw [if_pos (by decide),if_neg]
   exact Qd 0
 ·have ht:trimF fin al=([],[]):=by unfold trimF;rw [if_neg hv]
  rw [ht]
  simp only
  unfold trimF
  rw [if_neg (by decide)]
theorem F9 (fin:List Bool) (al:List A):okF (o8 fin al).1 (o8 fin al).2=okF fin al:=by
 by_cases hv:okF fin al=true
 ·have e:o8 fin al=(fin,al.map vF):=if_pos hv
  rw [e,hv]
  obtain ⟨h1,h2,h3⟩:=jf hv
  refine Jh h1 h2 (by simpa using h3) fun b hb=>?_
  obtain ⟨a,ha,rfl⟩:=List.mem_map.1 hb
  have:=eU hv ha
  simp only [vF]
  omega
 ·have e:o8 fin al=([],[]):=if_neg hv
  rw [e,show okF fin al=false by simpa using hv];rfl
end
end Go.Proofs.Ytlbdmpjnmfmnfaa
