import Derived.Test.YtlbdmpjnmfmnfaaFs3
import Derived.Test.YtlbdmpjnmfmnfaaFsN
set_option linter.unusedSimpArgs false
set_option linter.unusedVariables false
namespace Go.Proofs.Ytlbdmpjnmfmnfaa
open Go.RowKit Go.HL Go.FS
inductive Rn (nx:Nat->List Int) (L0:List Int):Nat->Prop
 | on {j:Int}:j∈L0->Rn nx L0 j.toNat
 | step {i:Nat} {j:Int}:Rn nx L0 i->j∈nx i->Rn nx L0 j.toNat
structure RB (nx:Nat->List Int) (L0:List Int) (n B:Nat) (rb:List Bool) (L:List Int):Prop where
 len:rb.length=n
 inr:∀j∈L,0<=j/\j<n
 snd1:∀i,rb.getD i false=true->Rn nx L0 i
 snd2:∀j∈L,Rn nx L0 j.toNat
 base:∀j∈L0,rb.getD j.toNat false=true\/j∈L
 cl:∀i,rb.getD i false=true->∀j∈nx i,rb.getD j.toNat false=true\/j∈L
 few:L.length+cf rb*B<=L0.length+n*B
section
variable {nx:Nat->List Int} {L0:List Int} {n B:Nat}
theorem NH (n:Nat):cf (List.replicate n false)=n:=by simp [cf]
theorem RB.start (h:∀j∈L0,0<=j/\j<n):RB nx L0 n B (List.replicate n false) L0:=by
 have h0:∀i,(List.replicate n false).getD i false=false:=fun i=>by
  rw [List.getD_eq_getElem?_getD,List.getElem?_replicate];split<;>rfl
 exact ⟨by simp,h,fun i hi=>(by rw [h0] at hi;cases hi),fun j hj=>.on hj,fun j hj=>.inr hj,fun i hi=>(by rw [h0] at hi;cases hi),by rw [NH];exact Nat.le_refl _⟩
theorem RB.skip {rb:List Bool} {L:List Int} {j:Int} (h:RB nx L0 n B rb (L++[j])) (hj:rb.getD j.toNat false=true):RB nx L0 n B rb L:=by
 have hd:∀x,(rb.getD x.toNat false=true\/x∈L++[j])->rb.getD x.toNat false=true\/x∈L:=fun x hx=>by
  rcases hx with hx|hx
  ·exact .inl hx
  ·rcases List.mem_append.1 hx with hx|hx
   ·exact .inr hx
   ·simp only [List.mem_singleton] at hx;subst hx;exact .inl hj
 exact ⟨h.len,fun x hx=>h.inr x (by simp [hx]),h.snd1,fun x hx=>h.snd2 x (by simp [hx]),fun x hx=>hd x (h.base x hx),fun i hi x hx=>hd x (h.cl i hi x hx),by
  have:=h.few;rw [List.length_append] at this;omega⟩
theorem Du {rb:List Bool} {i k:Nat} (hi:i<rb.length):(rb.set i true).getD k false=if i=k then true else rb.getD k false:=by
 rw [List.getD_eq_getElem?_getD,List.getElem?_set]
 by_cases e:i=k
 ·subst e;simp [hi]
 ·simp [e]
theorem RB.add {rb:List Bool} {L:List Int} {j:Int} (h:RB nx L0 n B rb (L++[j])) (hj:rb.getD j.toNat false=false) (hin:∀x∈nx j.toNat,0<=x/\x<n) (hB:(nx j.toNat).length<=B):RB nx L0 n B (rb.set j.toNat true) (L++nx j.toNat):=by
 have hjn:=h.inr j (by simp)
 have hjl:j.toNat<rb.length:=by rw [h.len];omega
 have hg:=fun k=>Du (k:=k) hjl
 have hd:∀x,(rb.getD x.toNat false=true\/x∈L++[j])->(rb.set j.toNat true).getD x.toNat false=true\/x∈L++nx j.toNat:=fun x hx=>by
  rcases hx with hx|hx
  ·left;rw [hg];split;rfl;exact hx
  ·rcases List.mem_append.1 hx with hx|hx
   ·exact .inr (by simp [hx])
   ·simp only [List.mem_singleton] at hx;subst hx;left;rw [hg,if_pos rfl]
 have hc:=zi rb _ hjl hj
 refine ⟨by rw [List.length_set];exact h.len,fun x hx=>?_,fun i hi=>?_,fun x hx=>?_,fun x hx=>hd x (h.base x hx),fun i hi x hx=>?_,?_⟩
 ·rcases List.mem_append.1 hx with hx|hx
  ·exact h.inr x (by simp [hx])
  ·exact hin x hx
 ·rw [hg] at hi
  by_cases e:j.toNat=i
  ·rw [<- e];exact h.snd2 j (by simp)
  ·rw [if_neg e] at hi;exact h.snd1 i hi
 ·rcases List.mem_append.1 hx with hx|hx
  ·exact h.snd2 x (by simp [hx])
  ·exact .step (h.snd2 j (by simp)) hx
 ·rw [hg] at hi
  by_cases e:j.toNat=i
  ·subst e;exact .inr (by simp [hx])
  ·rw [if_neg e] at hi;exact hd x (h.cl i hi x hx)
 ·have:=h.few
  rw [List.length_append] at this ⊢
  have e:cf rb*B=cf (rb.set j.toNat true)*B+B:=by rw [<- hc,Nat.add_mul,Nat.one_mul]
  simp only [List.length_cons,List.length_nil] at this
  omega
theorem RB.done {rb:List Bool} (h:RB nx L0 n B rb []) (i:Nat):rb.getD i false=true <-> Rn nx L0 i:=by
 refine ⟨h.snd1 i,fun hr=>?_⟩
 induction hr with
 | on hj=>rcases h.base _ hj with h|h;exact h;cases h
 | step _ hj ih=>rcases h.cl _ ih _ hj with h|h;exact h;cases h
end
theorem EF {l:List Int} {x:Int} {n:Nat} (h:n=l.length):(l++[x]).getD n 0=x:=by subst h;simp
set_option maxHeartbeats 8000000 in
theorem CY (g:FuncId) (A0:List HV) (n B:Nat) (nx:Nat->List Int) (L0:List Int) (hn:n<=2048) (hB:∀i,i<n->(nx i).length<=B) (hBb:B<=200000) (hl0:L0.length<=200000) (hin:∀i,i<n->∀j∈nx i,0<=j/\j<n) (hL:∀j∈L0,0<=j/\j<n)
  (hg:∀i:Nat,i<n->HT Try.prog g [.int .i64 i,.ptr A0 0] (fun r=>r=.sl (nx i).length (HL.ints (nx i)))) :
  HTM Try.prog 68 [.int .i64 n,.osl 1 L0.length (HL.ints L0),.fn g [.ptr A0 0]] (fun r=>∃rb,r=.osl 1 n (HL.bools rb)/\rb.length=n/\∀i,rb.getD i false=true <-> Rn nx L0 i):=by
 refine HTM.of rfl Z9 (Nat.le_of_ble_eq_true rfl) (⟨[(0,.int .i64 n),(1,.ref 0 [] 1 0 L0.length),(2,.fn g [.ptr A0 0])],[(0,.osl 1 L0.length (HL.ints L0))],1⟩:St) rfl ?_
 unfold c68
 repeat (first|refine ah ?_|refine af ?_|refine au ?_|refine ae ?_|refine aA ?_|refine bT ?_|refine nI dS (by rfl) (by omega) aK aK ?_)
 refine bW [1,2,7] (fun s:List Bool×List Int=>RB nx L0 n B s.1 s.2)
  (fun s=>⟨[(1,.ref 0 [] 1 0 s.2.length),(2,.fn g [.ptr A0 0]),(7,.ref 1 [] 1 0 n)],[(0,.osl 1 s.2.length (HL.ints s.2)),(1,.osl 1 n (HL.bools s.1))],2⟩)
  (fun s=>cf s.1*(B+1)+s.2.length) (List.replicate n false,L0) (.start hL) rfl ?_
 rintro ⟨rb,L⟩ hI
 simp only at hI ⊢
 have hrl:=hI.len
 have hfw:=hI.few
 have hnB:n*B<=2048*200000:=Nat.mul_le_mul hn hBb
 rcases List.eq_nil_or_concat L with rfl|⟨L',j,rfl⟩
 ·repeat (first|refine ah ?_|refine af ?_|refine dY (by rfl) ?_|refine bQ (by rfl) ?_|refine ax ?_|refine au ?_|refine ae ?_|refine bV ?_)
  refine ay ?_
  exact ⟨rb,rfl,hrl,hI.done⟩
 ·rw [List.concat_eq_append] at hI hfw ⊢
  have hsn:(L'++[j]).length=L'.length+1:=by simp
  have hgv:(L'++[j]).getD L'.length 0=j:=EF rfl
  have hz:(((L'.length+1:Nat):Int) - 1).toNat=L'.length:=by omega
  have hjr:=hI.inr j (by simp)
  rw [hsn] at hfw ⊢
  have htk:(HL.ints (L'++[j])).take (L'.length*1)=HL.ints L':=by
   rw [Nat.mul_one]
   simp [HL.ints]
  have hgj:=hg j.toNat (by omega)
  rw [Int.toNat_of_nonneg hjr.1] at hgj
  have hnl:=hB j.toNat (by omega)
  have hni:=hin j.toNat (by omega)
  have hjl:j.toNat<rb.length:=by omega
  repeat (first|refine ah ?_|refine dC ?_|refine dU (by rfl) bn (by (try simp (disch:=omega) only [go_sem,reduceIte,Nat.reduceEqDiff,Nat.reduceAdd,Nat.reduceMul,hz,hgv]);try rfl) aG (by (try simp (disch:=omega) only [go_sem,hz,hgv]);try rfl) aJ ?_|refine af ?_|refine dY (by rfl) ?_|refine ak ?_|refine au ?_|refine ae ?_|refine aA ?_|refine aF ?_|refine AU (by rfl) (by rfl) (by (try simp (disch:=omega) only [go_sem,Int.reduceAdd,Int.reduceSub,Int.reduceMul,hz,hgv]);try rfl) ?_|refine bV ?_|refine FH (by rfl) (by (try simp only [go_sem,reduceIte,hz,hgv]);try rfl) ?_|refine LW (by rfl) (by rfl) (by rfl) (by omega) aK dS ?_)
  refine xm 1 [1,2,7,8,29] ⟨[(1,.ref 0 [] 1 0 L'.length),(2,.fn g [.ptr A0 0]),(7,.ref 1 [] 1 0 n),(8,.int .i64 j),(29,.bool (!rb.getD j.toNat false))],[(0,.osl 1 L'.length (HL.ints L')),(1,.osl 1 n (HL.bools rb))],2⟩ rfl rfl (by omega) (HL.ints_flat _) (by decide) (by rw [hz,htk];rfl) ?_
  cases hb:rb.getD j.toNat false with
  | true =>
   simp only [Bool.not_true]
   repeat (first|refine ax ?_|refine dL ?_|refine aF ?_)
   exact dm [1,2,7] (rb,L') (hI.skip hb) iP rfl
  | false =>
   simp only [Bool.not_false]
   have hadd:=hI.add hb hni hnl
   have hcf:=zi rb _ hjl hb
   have hmu:cf rb*(B+1)=cf (rb.set j.toNat true)*(B+1)+(B+1):=by rw [<- hcf,Nat.add_mul,Nat.one_mul]
   repeat (first|refine ah ?_|refine dC ?_|refine af ?_|refine ak ?_|refine au ?_|refine ae ?_|refine cZ ?_)
   refine zx (by rfl) bK dh (hgj) ?_
   rintro _ rfl
   refine ⟨bP,_,_,_,_,_,gU,(by decide),bJ,?_⟩
   generalize nx j.toNat=R at hnl hadd
   have hsr:(L'++R).length=L'.length+R.length:=List.length_append
   repeat (first|refine ah ?_|refine af ?_|refine dL ?_|refine gG ?_)
   exact dm [1,2,7] (rb.set j.toNat true,L'++R) hadd iP (by rw [hsr];rfl)
end Go.Proofs.Ytlbdmpjnmfmnfaa
