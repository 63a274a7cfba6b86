import Derived.Test.YtlbdmpjnmfmnfaaFsO
set_option linter.unusedSimpArgs false
set_option linter.unusedVariables false
namespace Go.Proofs.Ytlbdmpjnmfmnfaa
open Go.RowKit Go.HL Go.FS
inductive Rc (al:List A) (p q:A->Int) (S:Nat->Prop):Nat->Prop
 | on {i:Nat}:S i->Rc al p q S i
 | step {a:A}:a∈al->Rc al p q S (p a).toNat->Rc al p q S (q a).toNat
def cf (rb:List Bool):Nat:=(rb.filter fun b=>!b).length
theorem zi:∀ (rb:List Bool) (i:Nat),i<rb.length->rb.getD i false=false->cf (rb.set i true)+1=cf rb
 | [],i,h,_=>by simp at h
 | b::rb,0,_,h=>by
  simp only [List.getD_cons_zero] at h
  subst h
  simp [cf]
 | b::rb,i+1,h,he=>by
  have:=zi rb i (by simpa using h) (by simpa using he)
  unfold cf at this ⊢
  cases b<;>simp_all
section
variable {al:List A} {p q:A->Int} {S:Nat->Prop}
structure MI (al:List A) (p q:A->Int) (S:Nat->Prop) (n:Nat) (rb:List Bool):Prop where
 len:rb.length=n
 sound:∀i,rb.getD i false=true->Rc al p q S i
 base:∀i,i<n->S i->rb.getD i false=true
structure MJ (al:List A) (p q:A->Int) (S:Nat->Prop) (n:Nat) (rb0:List Bool) (k:Nat) (ag:Bool) (rb:List Bool):Prop where
 mi:MI al p q S n rb
 no:ag=false->rb=rb0/\∀a∈al.take k,rb.getD (p a).toNat false=true->rb.getD (q a).toNat false=true
 less:cf rb+(if ag then 1 else 0)<=cf rb0
theorem MJ.start {n:Nat} {rb:List Bool} (h:MI al p q S n rb):MJ al p q S n rb 0 false rb:=⟨h,fun _=>⟨rfl,by simp⟩,by simp⟩
theorem MJ.skip {n k:Nat} {rb0 rb:List Bool} {ag:Bool} (h:MJ al p q S n rb0 k ag rb) (hk:k<al.length) (hs:rb.getD (p (al.getD k default)).toNat false=true->rb.getD (q (al.getD k default)).toNat false=true):MJ al p q S n rb0 (k+1) ag rb:=by
 refine ⟨h.mi,fun ha=>⟨(h.no ha).1,fun a hm=>?_⟩,h.less⟩
 rw [dA hk] at hm
 rcases List.mem_append.1 hm with hm|hm
 ·exact (h.no ha).2 a hm
 ·simp only [List.mem_singleton] at hm;subst hm;exact hs
theorem MJ.add {n k:Nat} {rb0 rb:List Bool} {ag:Bool} (h:MJ al p q S n rb0 k ag rb) (hk:k<al.length) (hq:(q (al.getD k default)).toNat<n) (h1:rb.getD (p (al.getD k default)).toNat false=true) (h2:rb.getD (q (al.getD k default)).toNat false=false):MJ al p q S n rb0 (k+1) true (rb.set (q (al.getD k default)).toNat true):=by
 have hc:=zi rb _ (by rw [h.mi.len];exact hq) h2
 refine ⟨⟨by rw [List.length_set];exact h.mi.len,fun i hi=>?_,fun i hi hS=>?_⟩,fun ha=>absurd ha (by decide),by
  have:=h.less
  simp only [if_true]
  split at this<;>omega⟩
 ·rw [List.getD_eq_getElem?_getD,List.getElem?_set] at hi
  by_cases e:(q (al.getD k default)).toNat=i
  ·rw [<- e]
   exact .step (iY hk) (h.mi.sound _ h1)
  ·rw [if_neg e,<- List.getD_eq_getElem?_getD] at hi
   exact h.mi.sound i hi
 ·rw [List.getD_eq_getElem?_getD,List.getElem?_set]
  by_cases e:(q (al.getD k default)).toNat=i
  ·rw [if_pos e,if_pos (by rw [h.mi.len];exact hq)];rfl
  ·rw [if_neg e,<- List.getD_eq_getElem?_getD];exact h.mi.base i hi hS
theorem MJ.done {n:Nat} {rb0 rb:List Bool} (h:MJ al p q S n rb0 al.length false rb) (hS:∀i,S i->i<n) (i:Nat):rb.getD i false=true <-> Rc al p q S i:=by
 refine ⟨h.mi.sound i,fun hr=>?_⟩
 induction hr with
 | on hs=>exact h.mi.base _ (hS _ hs) hs
 | step ha _ ih=>exact (h.no rfl).2 _ (by rw [List.take_length];exact ha) ih
end
attribute [go_sem] List.length_replicate
set_option maxHeartbeats 8000000 in
theorem ER (fin:List Bool) (al:List A) (hv:okF fin al=true):HT Try.prog 52 [.agg (fA fin al)] (fun r=>∃rb,r=.osl 1 fin.length (HL.bools rb)/\rb.length=fin.length/\∀i,rb.getD i false=true <-> Rc al (·.f) (·.t) (·=0) i):=by
 obtain ⟨h1,h2,h3⟩:=jf hv
 refine HT.of rfl ZH (Nat.le_of_ble_eq_true rfl) ?_
 unfold c52
 simp only [aW,Nat.reduceAdd,fA,iw]
 repeat (first|refine ah ?_|refine dC ?_|refine aU ?_|refine af ?_|refine aI ?_|refine au ?_|refine ae ?_|refine aA ?_|refine bT ?_|refine aB ?_|refine cZ ?_|refine dD ?_|refine nI dS (by rfl) (by omega) aK aK ?_)
 have hmi:MI al (·.f) (·.t) (·=0) fin.length ((List.replicate fin.length false).set 0 true):=by
  refine ⟨by simp,fun i hi=>?_,fun i hi hS=>?_⟩
  ·rw [List.getD_eq_getElem?_getD,List.getElem?_set] at hi
   by_cases e:0=i
   ·exact .on e.symm
   ·rw [if_neg e,List.getElem?_replicate] at hi
    split at hi<;>simp at hi
  ·subst hS;simp [hi]
 refine bW [1,3,4] (fun s:Bool×List Bool=>MI al (·.f) (·.t) (·=0) fin.length s.2/\(s.1=false->∀i,s.2.getD i false=true <-> Rc al (·.f) (·.t) (·=0) i))
  (fun s=>⟨[(1,.pref 0 [] 0),(3,.ref 1 [] 1 0 fin.length),(4,.bool s.1)],[(0,.optr [.sl fin.length (HL.bools fin),.sl al.length (recs aC al)]),(1,.osl 1 fin.length (HL.bools s.2))],2⟩)
  (fun s=>cf s.2+if s.1 then 1 else 0) (true,(List.replicate fin.length false).set 0 true) ⟨hmi,by simp⟩ rfl ?_
 clear hmi
 rintro ⟨ag,rb0⟩ ⟨hmi,hdone⟩
 simp only at hmi hdone ⊢
 cases ag with
 | false =>
  repeat (first|refine ah ?_|refine af ?_|refine bQ (by rfl) ?_|refine ax ?_|refine au ?_|refine ae ?_)
  refine ay ?_
  exact ⟨rb0,rfl,hmi.len,hdone rfl⟩
 | true =>
  repeat (first|refine ah ?_|refine af ?_|refine ak ?_|refine au ?_|refine ae ?_|refine aA ?_|refine aF ?_)
  refine bW [1,3,4,5] (fun s:Nat×Bool×List Bool=>s.1<=al.length/\MJ al (·.f) (·.t) (·=0) fin.length rb0 s.1 s.2.1 s.2.2)
   (fun s=>⟨[(1,.pref 0 [] 0),(3,.ref 1 [] 1 0 fin.length),(4,.bool s.2.1),(5,.int .i64 s.1)],[(0,.optr [.sl fin.length (HL.bools fin),.sl al.length (recs aC al)]),(1,.osl 1 fin.length (HL.bools s.2.2))],2⟩)
   (fun s=>al.length - s.1) (0,false,rb0) ⟨by simp,.start hmi⟩ rfl ?_
  rintro ⟨k,ag,rb⟩ ⟨hk,hmj⟩
  simp only at hk hmj ⊢
  have hrl:=hmj.mi.len
  by_cases hkl:k<al.length
  ·have ha:=eU hv (iY hkl)
   have hsk:=hmj.skip hkl
   have had:=hmj.add hkl (by show (al.getD k default).t.toNat<fin.length;omega)
   cases b1:rb.getD (al.getD k default).f.toNat false with
   | false =>
    repeat (first|refine ah ?_|refine dn ?_|refine aO ?_|refine dC ?_|refine eG (by rfl) aG (by (try simp (disch:=omega) only [go_sem,b1]);try rfl) ?_|refine dU (by rfl) bn (by (try simp (disch:=omega) only [go_sem,reduceIte,Nat.reduceEqDiff,Nat.reduceAdd,Nat.reduceMul,b1]);try rfl) aG (by (try simp (disch:=omega) only [go_sem,b1]);try rfl) aJ ?_|refine af ?_|refine az ?_|refine aP ?_|refine gI (by rfl) (by rfl) (by (try simp (disch:=omega) only [go_sem,Int.reduceAdd,Int.reduceSub,Int.reduceMul,b1]);try rfl) ?_|refine aI ?_|refine ak ?_|refine ax ?_|refine au ?_|refine ae ?_|refine aA ?_|refine dL ?_|refine aF ?_|refine aX ?_|refine aB ?_)
    exact dm [1,3,4,5] (k+1,ag,rb) ⟨hkl,hsk (fun h=>by rw [b1] at h;cases h)⟩ iP rfl
   | true =>
    cases b2:rb.getD (al.getD k default).t.toNat false with
    | true =>
     repeat (first|refine ah ?_|refine aN ?_|refine aO ?_|refine dC ?_|refine eG (by rfl) aG (by (try simp (disch:=omega) only [go_sem,b1,b2,Bool.not_true]);try rfl) ?_|refine dU (by rfl) bn (by (try simp (disch:=omega) only [go_sem,reduceIte,Nat.reduceEqDiff,Nat.reduceAdd,Nat.reduceMul,b1,b2,Bool.not_true]);try rfl) aG (by (try simp (disch:=omega) only [go_sem,b1,b2,Bool.not_true]);try rfl) aJ ?_|refine af ?_|refine az ?_|refine aV ?_|refine gI (by rfl) (by rfl) (by (try simp (disch:=omega) only [go_sem,Int.reduceAdd,Int.reduceSub,Int.reduceMul,b1,b2,Bool.not_true]);try rfl) ?_|refine aI ?_|refine ak ?_|refine ax ?_|refine au ?_|refine ae ?_|refine aA ?_|refine dL ?_|refine aF ?_|refine iJ (by rfl) ?_|refine aX ?_|refine aB ?_)
     exact dm [1,3,4,5] (k+1,ag,rb) ⟨hkl,hsk (fun _=>b2)⟩ iP rfl
    | false =>
     repeat (first|refine ah ?_|refine aN ?_|refine aO ?_|refine dC ?_|refine eG (by rfl) aG (by (try simp (disch:=omega) only [go_sem,b1,b2,Bool.not_false]);try rfl) ?_|refine dU (by rfl) bn (by (try simp (disch:=omega) only [go_sem,reduceIte,Nat.reduceEqDiff,Nat.reduceAdd,Nat.reduceMul,b1,b2,Bool.not_false]);try rfl) aG (by (try simp (disch:=omega) only [go_sem,b1,b2,Bool.not_false]);try rfl) aJ ?_|refine af ?_|refine az ?_|refine aV ?_|refine gI (by rfl) (by rfl) (by (try simp (disch:=omega) only [go_sem,Int.reduceAdd,Int.reduceSub,Int.reduceMul,b1,b2,Bool.not_false]);try rfl) ?_|refine aI ?_|refine ak ?_|refine au ?_|refine ae ?_|refine aA ?_|refine dL ?_|refine aF ?_|refine je (by rfl) ?_|refine aX ?_|refine aB ?_|refine l9 (by rfl) aJ aK gy (by rfl) (by decide) bn aK aG (by (try simp (disch:=omega) only [go_sem,b1,b2,Bool.not_false]);try rfl) aK ?_)
     exact dm [1,3,4,5] (k+1,true,rb.set (al.getD k default).t.toNat true) ⟨hkl,had b1 b2⟩ iP rfl
  ·obtain rfl:k=al.length:=by omega
   have hls:=hmj.less
   repeat (first|refine ah ?_|refine aU ?_|refine af ?_|refine az ?_|refine aI ?_|refine bQ (by rfl) ?_|refine ax ?_|refine au ?_|refine ae ?_|refine dL ?_|refine aB ?_)
   exact dm [1,3,4] (ag,rb) ⟨hmj.mi,fun e=>by simp only at e;subst e;exact hmj.done (fun i hi=>by subst hi;omega)⟩ (by simp only [if_true];omega) rfl
set_option maxHeartbeats 8000000 in
theorem ED (fin:List Bool) (al:List A) (hv:okF fin al=true):HT Try.prog 53 [.agg (fA fin al)] (fun r=>∃rb,r=.osl 1 fin.length (HL.bools rb)/\rb.length=fin.length/\∀i,rb.getD i false=true <-> Rc al (·.t) (·.f) (fun i=>fin.getD i false=true) i):=by
 obtain ⟨h1,h2,h3⟩:=jf hv
 refine HT.of rfl aaq (Nat.le_of_ble_eq_true rfl) ?_
 unfold c53
 simp only [aW,Nat.reduceAdd,fA,iw]
 repeat (first|refine ah ?_|refine aU ?_|refine af ?_|refine au ?_|refine ae ?_|refine aA ?_|refine bT ?_|refine aB ?_|refine bU ?_|refine dD ?_|refine gG ?_)
 have hmi:MI al (·.t) (·.f) (fun i=>fin.getD i false=true) fin.length fin:=by
  exact ⟨rfl,fun i hi=>.on hi,fun i _ hS=>hS⟩
 refine bW [1,3,4] (fun s:Bool×List Bool=>MI al (·.t) (·.f) (fun i=>fin.getD i false=true) fin.length s.2/\(s.1=false->∀i,s.2.getD i false=true <-> Rc al (·.t) (·.f) (fun i=>fin.getD i false=true) i))
  (fun s=>⟨[(1,.pref 0 [] 0),(3,.ref 1 [] 1 0 fin.length),(4,.bool s.1)],[(0,.optr [.sl fin.length (HL.bools fin),.sl al.length (recs aC al)]),(1,.osl 1 fin.length (HL.bools s.2))],2⟩)
  (fun s=>cf s.2+if s.1 then 1 else 0) (true,fin) ⟨hmi,by simp⟩ rfl ?_
 clear hmi
 rintro ⟨ag,rb0⟩ ⟨hmi,hdone⟩
 simp only at hmi hdone ⊢
 cases ag with
 | false =>
  repeat (first|refine ah ?_|refine af ?_|refine bQ (by rfl) ?_|refine ax ?_|refine au ?_|refine ae ?_)
  refine ay ?_
  exact ⟨rb0,rfl,hmi.len,hdone rfl⟩
 | true =>
  repeat (first|refine ah ?_|refine af ?_|refine ak ?_|refine au ?_|refine ae ?_|refine aA ?_|refine aF ?_)
  refine bW [1,3,4,5] (fun s:Nat×Bool×List Bool=>s.1<=al.length/\MJ al (·.t) (·.f) (fun i=>fin.getD i false=true) fin.length rb0 s.1 s.2.1 s.2.2)
   (fun s=>⟨[(1,.pref 0 [] 0),(3,.ref 1 [] 1 0 fin.length),(4,.bool s.2.1),(5,.int .i64 s.1)],[(0,.optr [.sl fin.length (HL.bools fin),.sl al.length (recs aC al)]),(1,.osl 1 fin.length (HL.bools s.2.2))],2⟩)
   (fun s=>al.length - s.1) (0,false,rb0) ⟨by simp,.start hmi⟩ rfl ?_
  rintro ⟨k,ag,rb⟩ ⟨hk,hmj⟩
  simp only at hk hmj ⊢
  have hrl:=hmj.mi.len
  by_cases hkl:k<al.length
  ·have ha:=eU hv (iY hkl)
   have hsk:=hmj.skip hkl
   have had:=hmj.add hkl (by show (al.getD k default).f.toNat<fin.length;omega)
   cases b1:rb.getD (al.getD k default).t.toNat false with
   | false =>
    repeat (first|refine ah ?_|refine dn ?_|refine aO ?_|refine dC ?_|refine eG (by rfl) aG (by (try simp (disch:=omega) only [go_sem,b1]);try rfl) ?_|refine dU (by rfl) bn (by (try simp (disch:=omega) only [go_sem,reduceIte,Nat.reduceEqDiff,Nat.reduceAdd,Nat.reduceMul,b1]);try rfl) aG (by (try simp (disch:=omega) only [go_sem,b1]);try rfl) aJ ?_|refine af ?_|refine az ?_|refine aP ?_|refine gI (by rfl) (by rfl) (by (try simp (disch:=omega) only [go_sem,Int.reduceAdd,Int.reduceSub,Int.reduceMul,b1]);try rfl) ?_|refine aI ?_|refine ak ?_|refine ax ?_|refine au ?_|refine ae ?_|refine aA ?_|refine dL ?_|refine aF ?_|refine aX ?_|refine aB ?_)
    exact dm [1,3,4,5] (k+1,ag,rb) ⟨hkl,hsk (fun h=>by rw [b1] at h;cases h)⟩ iP rfl
   | true =>
    cases b2:rb.getD (al.getD k default).f.toNat false with
    | true =>
     repeat (first|refine ah ?_|refine aN ?_|refine aO ?_|refine dC ?_|refine eG (by rfl) aG (by (try simp (disch:=omega) only [go_sem,b1,b2,Bool.not_true]);try rfl) ?_|refine dU (by rfl) bn (by (try simp (disch:=omega) only [go_sem,reduceIte,Nat.reduceEqDiff,Nat.reduceAdd,Nat.reduceMul,b1,b2,Bool.not_true]);try rfl) aG (by (try simp (disch:=omega) only [go_sem,b1,b2,Bool.not_true]);try rfl) aJ ?_|refine af ?_|refine az ?_|refine aV ?_|refine gI (by rfl) (by rfl) (by (try simp (disch:=omega) only [go_sem,Int.reduceAdd,Int.reduceSub,Int.reduceMul,b1,b2,Bool.not_true]);try rfl) ?_|refine aI ?_|refine ak ?_|refine ax ?_|refine au ?_|refine ae ?_|refine aA ?_|refine dL ?_|refine aF ?_|refine iJ (by rfl) ?_|refine aX ?_|refine aB ?_)
     exact dm [1,3,4,5] (k+1,ag,rb) ⟨hkl,hsk (fun _=>b2)⟩ iP rfl
    | false =>
     repeat (first|refine ah ?_|refine aN ?_|refine aO ?_|refine dC ?_|refine eG (by rfl) aG (by (try simp (disch:=omega) only [go_sem,b1,b2,Bool.not_false]);try rfl) ?_|refine dU (by rfl) bn (by (try simp (disch:=omega) only [go_sem,reduceIte,Nat.reduceEqDiff,Nat.reduceAdd,Nat.reduceMul,b1,b2,Bool.not_false]);try rfl) aG (by (try simp (disch:=omega) only [go_sem,b1,b2,Bool.not_false]);try rfl) aJ ?_|refine af ?_|refine az ?_|refine aV ?_|refine gI (by rfl) (by rfl) (by (try simp (disch:=omega) only [go_sem,Int.reduceAdd,Int.reduceSub,Int.reduceMul,b1,b2,Bool.not_false]);try rfl) ?_|refine aI ?_|refine ak ?_|refine au ?_|refine ae ?_|refine aA ?_|refine dL ?_|refine aF ?_|refine je (by rfl) ?_|refine aX ?_|refine aB ?_|refine l9 (by rfl) aJ aK gy (by rfl) (by decide) bn aK aG (by (try simp (disch:=omega) only [go_sem,b1,b2,Bool.not_false]);try rfl) aK ?_)
     exact dm [1,3,4,5] (k+1,true,rb.set (al.getD k default).f.toNat true) ⟨hkl,had b1 b2⟩ iP rfl
  ·obtain rfl:k=al.length:=by omega
   have hls:=hmj.less
   repeat (first|refine ah ?_|refine aU ?_|refine af ?_|refine az ?_|refine aI ?_|refine bQ (by rfl) ?_|refine ax ?_|refine au ?_|refine ae ?_|refine dL ?_|refine aB ?_)
   exact dm [1,3,4] (ag,rb) ⟨hmj.mi,fun e=>by simp only at e;subst e;exact hmj.done (fun i hi=>by rcases Nat.lt_or_ge i fin.length with h|h;exact h;rw [List.getD_eq_getElem?_getD,List.getElem?_eq_none h] at hi;cases hi)⟩ (by simp only [if_true];omega) rfl
end Go.Proofs.Ytlbdmpjnmfmnfaa
