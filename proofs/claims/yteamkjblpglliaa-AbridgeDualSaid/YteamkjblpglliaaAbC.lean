import Derived.Test.YteamkjblpglliaaFlChk
import Derived.Test.YteamkjblpglliaaClClsd
import Derived.Test.YteamkjblpglliaaAbB
section
set_option linter.unusedSimpArgs false
set_option linter.unusedVariables false
namespace Go.Proofs.Yteamkjblpglliaa
open Go.RowKit Go.SL Go.HL
end Go.Proofs.Yteamkjblpglliaa
end
section
set_option linter.unusedSimpArgs false
set_option linter.unusedVariables false
namespace Go.Proofs.Yteamkjblpglliaa
open Go.RowKit Go.SL Go.HL
theorem sD {nd:List (List Nat)} {bad:List Bool} (g:Gr nd bad) {X:List Bool} (hX:X.length=nd.length):kw (nd.map nl) X=true:=by
 unfold kw
 simp only [List.length_map,hX,decide_true,Bool.true_and,Bool.not_eq_true',List.any_eq_false]
 intro r hr
 obtain ⟨row,hrow,rfl⟩:=List.mem_map.1 hr
 simp only [Bool.not_eq_true,List.any_eq_false]
 intro x hx
 obtain ⟨y,hy,rfl⟩:=List.mem_map.1 hx
 obtain ⟨i,hi,rfl⟩:=Ef [] hrow
 have:=g.lt i y hy
 simp [o6]
 omega
end Go.Proofs.Yteamkjblpglliaa
end
section
set_option linter.unusedSimpArgs false
set_option linter.unusedVariables false
namespace Go.Proofs.Yteamkjblpglliaa
def JR (out:List Bool):Nat:=(out.filter (!·)).length
theorem RY (out:List Bool):JR out<=out.length:=List.length_filter_le _ _
theorem BP:∀ (out:List Bool) (i:Nat),i<out.length->out.getD i false=false->JR (out.set i true)+1=JR out
 | [],_,h,_=>absurd h (Nat.not_lt_zero _)
 | b::out,0,_,h=>by
  have hb:b=false:=by simpa using h
  subst hb
  simp [JR]
 | b::out,i+1,h,h2=>by
  have ih:=BP out i (by simpa using h) (by simpa using h2)
  unfold JR at ih ⊢
  cases b<;>simp only [List.set_cons_succ,List.filter_cons,Bool.not_false,Bool.not_true,Bool.false_eq_true,if_true,if_false,List.length_cons]<;>omega
theorem Af (out:List Bool) (i u:Nat) (hi:i<out.length):(out.set i true).getD u false=if i=u then true else out.getD u false:=by
 simp only [List.getD_eq_getElem?_getD,List.getElem?_set]
 split
 ·rename_i h;subst h;simp [hi]
 ·rfl
def mY (g:List (List Int)) (X:List Bool):Prop:=∀u,X.getD u false=true->∀j∈g.getD u [],X.getD j.toNat false=true
def Nc (A B:List Bool):Prop:=∀u:Nat,A.getD u false=true->B.getD u false=true
structure xA (g:List (List Int)) (set out:List Bool):Prop where
 len:out.length=set.length
 sup:Nc set out
 closed:mY g out
 least:∀X,mY g X->Nc set X->Nc out X
structure HInv (g:List (List Int)) (set:List Bool) (m:Nat) (ex:Nat->Prop) (out:List Bool) (l:List Nat):Prop where
 len:out.length=set.length
 sup:∀u,u<m->set.getD u false=true->out.getD u false=true
 inl:∀u∈l,u<set.length/\out.getD u false=true
 ok:∀u,out.getD u false=true->u ∉ l->¬ ex u->∀j∈g.getD u [],out.getD j.toNat false=true
 least:∀X,mY g X->Nc set X->Nc out X
 few:2*JR out+l.length<=2*set.length
section
variable {g:List (List Int)} {set out:List Bool} {l:List Nat} {m i p:Nat} {ex:Nat->Prop}
theorem HInv.init (g:List (List Int)) (set:List Bool):HInv g set 0 (fun _=>False) (List.replicate set.length false) []:=by
 have hf:∀u:Nat,(List.replicate set.length false).getD u false=false:=fun u=>by
  rw [List.getD_eq_getElem?_getD,List.getElem?_replicate];split<;>rfl
 refine ⟨by simp,fun u hu=>absurd hu (Nat.not_lt_zero _),by simp,fun u hu=>?_,fun X _ _ u hu=>?_,?_⟩
 ·rw [hf] at hu;cases hu
 ·rw [hf] at hu;cases hu
 ·have:=RY (List.replicate set.length false)
  simp at this ⊢
  omega
theorem HInv.visit (h:HInv g set m ex out l) (hi:i<set.length) (hu:out.getD i false=false) (hx:∀X,mY g X->Nc set X->X.getD i false=true):HInv g set m ex (out.set i true) (l++[i]):=by
 have hio:i<out.length:=by rw [h.len];exact hi
 have hg:∀u:Nat,(out.set i true).getD u false=if i=u then true else out.getD u false:=fun u=>Af out i u hio
 have up:∀u:Nat,out.getD u false=true->(out.set i true).getD u false=true:=fun u hu=>by
  rw [hg];split
  ·rfl
  ·exact hu
 refine ⟨by simp [h.len],fun u h1 h2=>up u (h.sup u h1 h2),fun u hul=>?_,fun u h1 h2 h3 j hj=>?_,fun X h1 h2 u h3=>?_,?_⟩
 ·rcases List.mem_append.1 hul with h1|h1
  ·exact ⟨(h.inl u h1).1,up u (h.inl u h1).2⟩
  ·obtain rfl:u=i:=by simpa using h1
   exact ⟨hi,by rw [hg];simp⟩
 ·simp only [List.mem_append,List.mem_singleton,not_or] at h2
  rw [hg,if_neg (fun e=>h2.2 e.symm)] at h1
  exact up _ (h.ok u h1 h2.1 h3 j hj)
 ·rw [hg] at h3
  split at h3
  ·rename_i e;rw [<- e];exact hx X h1 h2
  ·exact h.least X h1 h2 u h3
 ·have:=BP out i hio hu
  have:=h.few
  rw [List.length_append]
  simp only [List.length_cons,List.length_nil]
  omega
theorem HInv.pop (h:HInv g set m (fun _=>False) out (l++[p])):HInv g set m (fun u=>u=p) out l/\p<set.length/\out.getD p false=true:=by
 have hp:=h.inl p (by simp)
 refine ⟨⟨h.len,h.sup,fun u hu=>h.inl u (by simp [hu]),fun u h1 h2 h3=>h.ok u h1 (by simp [h2,h3]) (fun h=>h),h.least,?_⟩,hp⟩
 have:=h.few
 rw [List.length_append] at this
 omega
theorem HInv.done (h:HInv g set m (fun u=>u=p) out l) (hr:∀j∈g.getD p [],out.getD j.toNat false=true):HInv g set m (fun _=>False) out l :=
 ⟨h.len,h.sup,h.inl,fun u h1 h2 _=>by
  by_cases e:u=p
  ·subst e;exact hr
  ·exact h.ok u h1 h2 e,h.least,h.few⟩
theorem HInv.next (h:HInv g set m ex out l) (hm:set.getD m false=true->out.getD m false=true):HInv g set (m+1) ex out l :=
 ⟨h.len,fun u h1 h2=>by
  by_cases e:u=m
  ·subst e;exact hm h2
  ·exact h.sup u (by omega) h2,h.inl,h.ok,h.least,h.few⟩
theorem HInv.hull (h:HInv g set set.length (fun _=>False) out []):xA g set out :=
 ⟨h.len,fun u hu=>by
  by_cases e:u<set.length
  ·exact h.sup u e hu
  ·exact absurd hu (by rw [List.getD_eq_getElem?_getD,List.getElem?_eq_none (by omega)];simp),fun u hu j hj=>h.ok u hu (by simp) (fun h=>h) j hj,h.least⟩
end
structure Swp (g:List (List Int)) (set out:List Bool):Prop where
 len:out.length=set.length
 sup:Nc set out
 least:∀X,mY g X->Nc set X->Nc out X
section
variable {g:List (List Int)} {set out:List Bool} {i j:Nat}
theorem Swp.init:Swp g set set:=⟨rfl,fun _ h=>h,fun _ _ h=>h⟩
theorem jL (hf:kw g out=true):jf g out=true <-> mY g out:=by
 obtain ⟨he,hin⟩:=rV hf
 unfold jf
 rw [hf,Bool.true_and,Bool.not_eq_true',List.any_eq_false]
 constructor
 ·intro h u hu j hj
  have hul:u<g.length:=by
   rw [he]
   apply Classical.byContradiction
   intro hn
   rw [List.getD_eq_getElem?_getD,List.getElem?_eq_none (by omega)] at hu;cases hu
  have:=h u (List.mem_range.2 hul)
  unfold lacks at this
  rw [hu,Bool.true_and] at this
  simp only [Bool.not_eq_true,List.any_eq_false] at this
  have:=this j hj
  simpa using this
 ·intro h u _
  unfold lacks
  cases hu:out.getD u false with
  | false=>simp
  | true =>
   simp only [Bool.true_and,Bool.not_eq_true,List.any_eq_false]
   intro j hj
   rw [h u hu j hj];decide
end
end Go.Proofs.Yteamkjblpglliaa
end
section
set_option linter.unusedSimpArgs false
set_option linter.unusedVariables false
namespace Go.Proofs.Yteamkjblpglliaa
open Go.RowKit Go.SL Go.HL
theorem closedN_Y {nd:List (List Nat)} {X:List Bool}:mY (nd.map nl) X <-> dH nd X:=by
 constructor
 ·intro h u hu j hj
  have:=h u hu j (by rw [dM];exact List.mem_map.2 ⟨j,hj,rfl⟩)
  simpa using this
 ·intro h u hu j hj
  rw [dM] at hj
  obtain ⟨k,hk,rfl⟩:=List.mem_map.1 hj
  simpa using h u hu k hk
theorem CY (n:Nat) (h:n<=9):∃q:Nat,q=2 ^ n/\IntKind.u64.wrap (n:Int)=n/\IntKind.i64.wrap (1*2 ^ (min n 64))=(q:Int)/\1<=q/\q<=512:=by
 refine ⟨2 ^ n,rfl,?_⟩
 have:∀m:Nat,m<10->IntKind.u64.wrap (m:Int)=m/\IntKind.i64.wrap (1*2 ^ (min m 64))=((2 ^ m:Nat):Int)/\1<=2 ^ m/\2 ^ m<=512:=by decide +kernel
 exact this n (by omega)
set_option maxHeartbeats 16000000 in
theorem IE (w:List Int) (nd:List (List Nat)) (bad:List Bool) (g:Gr nd bad) (hw:WOK w) (hl:w.length=nd.length) (hn:nd.length<=9):HT Try.prog 38 [I w,Gs (nd.map nl)] (fun r=>∃B M,r=.tup [.osl 1 nd.length (HL.bools B),.int .i64 M]/\Best w nd (2 ^ nd.length) B M):=by
 have hnl:(nd.map nl).length=nd.length:=by simp
 have h3:∀i,((nd.map nl).getD i []).length<=9223372036854775807:=fun i=>by rw [dM,fH];have:=g.len i;omega
 obtain ⟨q,hq,hsu,hss,hq1,hq2⟩:=CY nd.length hn
 refine HT.of rfl aeg (Nat.le_of_ble_eq_true rfl) ?_
 unfold c38
 simp only [Gs,I,aP,Nat.reduceAdd]
 rw [hnl,hl]
 obtain ⟨n,hnn⟩:∃n,nd.length=n:=⟨_,rfl⟩
 rw [hnn] at hn hsu hss ⊢
 repeat (first|refine ah ?_|refine ag ?_|refine aF ?_|refine ak ?_|refine ae ?_|refine aB ?_|refine eU rfl (by rfl) gU ?_|refine ku gU (by rfl) (by omega) bW bW ?_)
 refine bD [0,1,6,7,8] (fun s:Nat×List Bool×Int=>s.1<=q/\Best w nd s.1 s.2.1 s.2.2)
  (fun s=>⟨[(0,.sl n (HL.ints w)),(1,.sl n (aZ (nd.map nl))),(6,.ref 0 [] 1 0 n),(7,.int .i64 s.2.2),(8,.int .i64 s.1)],[(0,.osl 1 n (HL.bools s.2.1))],1⟩)
  (fun s=>q - s.1) (0,List.replicate n false,0) ⟨by simp,hnn▸Best.zero⟩ rfl ?_
 rintro ⟨k,B,M⟩ ⟨hk,hB⟩
 simp only at hk hB ⊢
 by_cases hkn:k<q
 ·repeat (first|refine ah ?_|refine ag ?_|refine az ?_|refine aF ?_|refine ax ?_|refine ak ?_|refine ae ?_|refine aB ?_|refine aA ?_|refine Lp (by rfl) (by rfl) (by omega) (by (try simp (disch:=omega) only [go_sem,Int.reduceAdd,Int.reduceSub,Int.reduceMul,hsu,hss]);try rfl) ?_|refine Bh (by rfl) (by (try simp (disch:=omega) only [go_sem,Int.reduceAdd,Int.reduceSub,Int.reduceMul,hsu,hss]);try rfl) ?_)
  refine bf aJ dI (NK n k (by omega) (by omega)) ?_
  rintro _ rfl
  refine ⟨dE,_,_,_,_,_,dw,(by decide),aQ,?_⟩
  have hXl:(fB k n).length=n:=nY _ _
  obtain ⟨X,hX⟩:∃X,fB k n=X:=⟨_,rfl⟩
  rw [hX] at hXl ⊢
  have hfX:=sD g (hXl.trans hnn.symm)
  have hcl:=xR (nd.map nl) X (by omega) (by omega) h3
  have hwt:=IY w X hw n (by omega) (by omega) hXl
  simp only [Gs,Bl,I] at hcl hwt
  rw [hnl,hXl,hnn] at hcl
  rw [hXl,hl,hnn] at hwt
  repeat (first|refine ah ?_|refine ag ?_|refine ak ?_|refine ae ?_)
  refine bf aJ dI (hcl) ?_
  rintro _ rfl
  refine ⟨dE,_,_,_,_,_,dw,(by decide),aQ,?_⟩
  cases hcb:jf (nd.map nl) X with
  | false =>
   have hno:¬ dH nd (fB k nd.length):=fun h=>by
    rw [hnn,hX] at h
    have:=(jL hfX).2 (closedN_Y.2 h)
    rw [hcb] at this;cases this
   repeat (first|refine ah ?_|refine ag ?_|refine bz ?_|refine aO ?_|refine ax ?_|refine ae ?_|refine gZ (by rfl) ?_)
   exact bJ [0,1,6,7,8] (k+1,B,M) ⟨hkn,hB.open hno⟩ dV rfl
  | true =>
   have hcX:dH nd (fB k nd.length):=by rw [hnn,hX];exact closedN_Y.1 ((jL hfX).1 hcb)
   have hWb:=sW hw X n
   obtain ⟨W,hW⟩:∃W,wS w X n=W:=⟨_,rfl⟩
   rw [hW] at hwt hWb
   have hWn:wS w (fB k nd.length) nd.length=W:=by rw [hnn,hX,hW]
   repeat (first|refine ah ?_|refine ag ?_|refine au ?_|refine ak ?_|refine ae ?_|refine aA ?_|refine dR (by rfl) ?_)
   refine bf aJ dI (hwt) ?_
   rintro _ rfl
   refine ⟨dE,_,_,_,_,_,dw,(by decide),aQ,?_⟩
   by_cases h1:M<W
   ·have hnx:=hB.more hcX (by rw [hWn];exact h1)
    rw [hWn,hnn,hX] at hnx
    repeat (first|refine ah ?_|refine ag ?_|refine bz ?_|refine ax ?_|refine ak ?_|refine ae ?_|refine dh ?_|refine bn ?_)
    exact bJ [0,1,6,7,8] (k+1,X,W) ⟨hkn,hnx⟩ dV rfl
   ·by_cases h2:W=M
    ·subst h2
     have hBl:B.length=n:=by rw [hB.len,hnn]
     repeat (first|refine ah ?_|refine ag ?_|refine aY ?_|refine ax ?_|refine au ?_|refine ak ?_|refine ae ?_|refine aB ?_|refine bn ?_)
     refine bD [0,1,6,7,8,9,11] (fun s:Nat×List Bool=>s.1<=n/\s.2.length=n/\∀u:Nat,s.2.getD u false=if u<s.1 then (B.getD u false&&X.getD u false) else B.getD u false)
      (fun s=>⟨[(0,.sl n (HL.ints w)),(1,.sl n (aZ (nd.map nl))),(6,.ref 0 [] 1 0 n),(7,.int .i64 W),(8,.int .i64 k),(9,.ref 1 [] 1 0 n),(11,.int .i64 s.1)],[(0,.osl 1 n (HL.bools s.2)),(1,.osl 1 n (HL.bools X))],2⟩)
      (fun s=>n - s.1) (0,B) ⟨by simp,hBl,fun u=>by simp⟩ rfl ?_
     rintro ⟨i,D⟩ ⟨hi,hDl,hD⟩
     simp only at hi hDl hD ⊢
     have hDb:(HL.bools D).length=n:=by rw [HL.bools_len,hDl]
     by_cases hin:i<n
     ·have hDi:=hD i
      rw [if_neg (Nat.lt_irrefl _)] at hDi
      have nxt:∀v:Bool,v=(D.getD i false&&X.getD i false)->i+1<=n/\(D.set i v).length=n/\∀u:Nat,(D.set i v).getD u false=if u<i+1 then (B.getD u false&&X.getD u false) else B.getD u false:=fun v hv=>by
       refine ⟨hin,by rw [List.length_set,hDl],fun u=>?_⟩
       rw [List.getD_eq_getElem?_getD,List.getElem?_set]
       by_cases e:i=u
       ·subst e
        rw [if_pos rfl,if_pos (by omega),if_pos (by omega),Option.getD_some,hv,hDi]
       ·rw [if_neg e,<- List.getD_eq_getElem?_getD,hD u]
        by_cases h:u<i
        ·rw [if_pos h,if_pos (by omega)]
        ·rw [if_neg h,if_neg (by omega)]
      cases hdi:D.getD i false with
      | true =>
       cases hxi:X.getD i false with
       | true =>
        repeat (first|refine ah ?_|refine aG ?_|refine bY ?_|refine gJ (by rfl) dm (by (try simp (disch:=omega) only [go_sem,reduceIte,Nat.reduceEqDiff,Nat.reduceAdd,Nat.reduceMul,hdi,hxi]);try rfl) aT (by (try simp (disch:=omega) only [go_sem,hdi,hxi]);try rfl) fP ?_|refine ag ?_|refine az ?_|refine aK ?_|refine di (by rfl) (by rfl) (by (try simp (disch:=omega) only [go_sem,Int.reduceAdd,Int.reduceSub,Int.reduceMul,hdi,hxi]);try rfl) ?_|refine eH (by rfl) ?_|refine ax ?_|refine ak ?_|refine ae ?_|refine aB ?_|refine dh ?_|refine aA ?_|refine yU (by rfl) fP bW qp (by rfl) (by decide) dm bW aT (by (try simp (disch:=omega) only [go_sem,hdi,hxi]);try rfl) bW ?_)
        exact bJ [0,1,6,7,8,9,11] (i+1,D.set i true) (nxt true (by rw [hdi,hxi];rfl)) dV rfl
       | false =>
        repeat (first|refine ah ?_|refine aG ?_|refine bY ?_|refine gJ (by rfl) dm (by (try simp (disch:=omega) only [go_sem,reduceIte,Nat.reduceEqDiff,Nat.reduceAdd,Nat.reduceMul,hdi,hxi]);try rfl) aT (by (try simp (disch:=omega) only [go_sem,hdi,hxi]);try rfl) fP ?_|refine ag ?_|refine az ?_|refine aK ?_|refine di (by rfl) (by rfl) (by (try simp (disch:=omega) only [go_sem,Int.reduceAdd,Int.reduceSub,Int.reduceMul,hdi,hxi]);try rfl) ?_|refine eH (by rfl) ?_|refine ax ?_|refine ak ?_|refine ae ?_|refine aB ?_|refine dh ?_|refine aA ?_|refine yU (by rfl) fP bW qp (by rfl) (by decide) dm bW aT (by (try simp (disch:=omega) only [go_sem,hdi,hxi]);try rfl) bW ?_)
        exact bJ [0,1,6,7,8,9,11] (i+1,D.set i false) (nxt false (by rw [hdi,hxi];rfl)) dV rfl
      | false =>
       repeat (first|refine ah ?_|refine bZ ?_|refine bY ?_|refine gJ (by rfl) dm (by (try simp (disch:=omega) only [go_sem,reduceIte,Nat.reduceEqDiff,Nat.reduceAdd,Nat.reduceMul,hdi]);try rfl) aT (by (try simp (disch:=omega) only [go_sem,hdi]);try rfl) fP ?_|refine ag ?_|refine az ?_|refine aI ?_|refine di (by rfl) (by rfl) (by (try simp (disch:=omega) only [go_sem,Int.reduceAdd,Int.reduceSub,Int.reduceMul,hdi]);try rfl) ?_|refine eH (by rfl) ?_|refine ax ?_|refine ak ?_|refine ae ?_|refine aB ?_|refine dh ?_|refine aA ?_|refine yU (by rfl) fP bW qp (by rfl) (by decide) dm bW aT (by (try simp (disch:=omega) only [go_sem,hdi]);try rfl) bW ?_)
       exact bJ [0,1,6,7,8,9,11] (i+1,D.set i false) (nxt false (by rw [hdi];rfl)) dV rfl
     ·obtain rfl:i=n:=by omega
      have hnx:=hB.same (D:=D) hcX hWn (by rw [hDl,hnn]) (fun u=>by
       rw [hD u,hnn,hX]
       split
       ·rfl
       ·rename_i hu
        rw [List.getD_eq_getElem?_getD,List.getElem?_eq_none (by omega)];rfl)
      repeat (first|refine ah ?_|refine ag ?_|refine az ?_|refine bz ?_|refine eH (by rfl) ?_|refine aO ?_|refine au ?_|refine ak ?_|refine ae ?_|refine dh ?_)
      exact bJ [0,1,6,7,8] (k+1,D,W) ⟨hkn,hnx⟩ dV rfl
    ·have hnx:=hB.less (k:=k) (by rw [hWn];omega)
     repeat (first|refine ah ?_|refine ag ?_|refine aY ?_|refine bz ?_|refine au ?_|refine ak ?_|refine ae ?_|refine dh ?_|refine aA ?_|refine bn ?_)
     exact bJ [0,1,6,7,8] (k+1,B,M) ⟨hkn,hnx⟩ dV rfl
 ·obtain rfl:k=q:=by omega
  repeat (first|refine ah ?_|refine ag ?_|refine az ?_|refine aF ?_|refine aO ?_|refine au ?_|refine ak ?_|refine ae ?_|refine Lp (by rfl) (by rfl) (by omega) (by (try simp (disch:=omega) only [go_sem,Int.reduceAdd,Int.reduceSub,Int.reduceMul,hsu,hss]);try rfl) ?_|refine Bh (by rfl) (by (try simp (disch:=omega) only [go_sem,Int.reduceAdd,Int.reduceSub,Int.reduceMul,hsu,hss]);try rfl) ?_)
  refine ay ?_
  exact ⟨B,M,rfl,by rw [<- hnn,<- hq];exact hB⟩
end Go.Proofs.Yteamkjblpglliaa
end
section
set_option linter.unusedSimpArgs false
set_option linter.unusedVariables false
namespace Go.Proofs.Yteamkjblpglliaa
open Go.RowKit Go.SL Go.HL
structure Lh (W C:List Int) (nd:List (List Nat)) (num den:Int) (fl:List Int) (set:List Bool) (value:Int):Prop where
 wok:WOK (gB W C num den)
 max:mO (gB W C num den) nd (set.take nd.length)
 found:Found ((nd.length:Int)+2) nd.length ((nd.length:Int)+1) (iM (gB W C num den) nd) fl set value
 val:value=jr (gB W C num den) nd.length - wS (gB W C num den) (set.take nd.length) nd.length
def oh (W C:List Int) (nd:List (List Nat)) (B num den:Int) (S:List Bool):Int:=(wS (gB W C num den) S nd.length+num*B) / den
def Lu (W C:List Int) (nd:List (List Nat)) (B num den:Int) (r:HV):Prop:=∃fl set value,Lh W C nd num den fl set value /\
 r=.tup [.agg [.int .i64 num,.int .i64 den,.int .i64 (oh W C nd B num den (set.take nd.length)),.osl 1 nd.length (HL.bools (set.take nd.length)),.osl 1 (iM (gB W C num den) nd).length (HL.ints fl)],.int .i64 0]
theorem mX {a b:Int} (h1:0<=a) (h2:a<=1048576) (h3:0<=b) (h4:b<=268435456):0<=a*b/\a*b<=281474976710656:=by
 refine ⟨Int.mul_nonneg h1 h3,?_⟩
 have:=Int.mul_le_mul h2 h4 h3 (by omega:(0:Int)<=1048576)
 omega
set_option maxHeartbeats 4000000 in
theorem vI {W C:List Int} {nd:List (List Nat)} {B:Int} (h:Pb W C nd B) (num den:Int) (hm:Mul num den) (hw:WOK (gB W C num den)):HT Try.prog 35 [.agg (jD W C nd B),.int .i64 num,.int .i64 den] (Lu W C nd B num den):=by
 have hsz:=h.g.size
 have hlw:=h.lw
 have hlc:=h.lc
 have hB:=h.b
 have hm2:=hm
 obtain ⟨hnum,hden⟩:=hm2
 have hnl:(nd.map nl).length=nd.length:=by simp
 have hL:=mV W C num den
 rw [hlw] at hL
 have hwt:=uj h num den hm
 have hmx:=Ia (gB W C num den) nd _ h.g hw (by omega)
 simp only [I,Gs,jD,hlw,hlc,hnl,hL] at hwt hmx
 have bb:=mX hnum.1 hnum.2 hB.1 hB.2
 unfold Lu oh
 refine HT.ofC rfl YA [6,7] rfl (Nat.le_of_ble_eq_true rfl) ?_
 unfold c35
 simp only [I,Gs,jD,aP,Nat.reduceAdd,hlw,hlc,hnl]
 repeat (first|refine ah ?_|refine ag ?_|refine ak ?_|refine ae ?_|refine bM ?_|refine dX ?_|refine iD gU ?_)
 refine bf aJ dI (hwt) ?_
 rintro _ (⟨-,rfl⟩|⟨hx,-⟩)
 rotate_left
 ·exact absurd hw hx
 refine ⟨dE,_,_,_,_,_,dw,(by decide),aQ,?_⟩
 repeat (first|refine ah ?_|refine aH ?_|refine ag ?_|refine aW ?_|refine bU ?_|refine au ?_|refine ak ?_|refine ae ?_|refine aA ?_|refine aC ?_)
 refine bf aJ dI (hmx) ?_
 rintro _ ⟨fl,set,value,rfl,hM,hF,hv⟩
 refine ⟨dE,_,_,_,_,_,dw,(by decide),aQ,?_⟩
 have hbd:=sW hw (set.take nd.length) nd.length
 repeat (first|refine ah ?_|refine aH ?_|refine ag ?_|refine aW ?_|refine bz ?_|refine bU ?_|refine au ?_|refine ak ?_|refine ae ?_|refine aA ?_|refine lg (by rfl) (by rfl) nV ?_|refine aC ?_)
 refine bf aJ dI (Bj (wS (gB W C num den) (set.take nd.length) nd.length+num*B) den (by omega) (by omega) (by omega) (by omega)) ?_
 rintro _ rfl
 refine ⟨dE,_,_,_,_,_,dw,(by decide),aQ,?_⟩
 repeat (first|refine ah ?_|refine ag ?_|refine dn ?_|refine nC ng nD (by simp [iU]) ?_)
 refine ay ?_
 exact ⟨_,_,rfl,rfl,fl,set,value,⟨hw,hM,hF,hv⟩,rfl⟩
set_option maxHeartbeats 4000000 in
theorem nR {W C:List Int} {nd:List (List Nat)} {B:Int} (h:Pb W C nd B) (num den:Int) (e:Int) (he:(¬ Mul num den/\e=1)\/(Mul num den/\¬ WOK (gB W C num den)/\e=5)):HT Try.prog 35 [.agg (jD W C nd B),.int .i64 num,.int .i64 den] (fun r=>r=.tup [.agg [.int .i64 0,.int .i64 0,.int .i64 0,.nils,.nils],.int .i64 e]):=by
 have hsz:=h.g.size
 have hlw:=h.lw
 have hlc:=h.lc
 have hnl:(nd.map nl).length=nd.length:=by simp
 have he0:e≠0:=by omega
 have hwt:HT Try.prog 46 [.agg (jD W C nd B),.int .i64 num,.int .i64 den] (fun r=>r=.tup [.osl 1 0 [],.int .i64 e]):=by
  rcases he with ⟨h1,rfl⟩|⟨h1,h2,rfl⟩
  ·exact qR h num den h1
  ·refine (uj h num den h1).mono ?_
   rintro _ (⟨hx,-⟩|⟨-,rfl⟩)
   ·exact absurd hx h2
   ·rfl
 simp only [I,Gs,jD,hlw,hlc,hnl] at hwt
 refine HT.ofC rfl YA [6,7] rfl (Nat.le_of_ble_eq_true rfl) ?_
 unfold c35
 simp only [I,Gs,jD,aP,Nat.reduceAdd,hlw,hlc,hnl]
 repeat (first|refine ah ?_|refine ag ?_|refine ak ?_|refine ae ?_|refine bM ?_|refine dX ?_|refine iD gU ?_)
 refine bf aJ dI (hwt) ?_
 rintro _ rfl
 refine ⟨dE,_,_,_,_,_,dw,(by decide),aQ,?_⟩
 repeat (first|refine ah ?_|refine ag ?_|refine aW ?_|refine bU ?_|refine ax ?_|refine ak ?_|refine ae ?_|refine dn ?_|refine nC ng nD (by simp [iU]) ?_)
 refine ay ?_
 exact ⟨_,_,rfl,rfl,rfl⟩
def J5 (W C:List Int) (nd:List (List Nat)) (B num den:Int) (r:HV):Prop:=∃fl set value,Lh W C nd num den fl set value /\
 r=.tup [.int .i64 (oh W C nd B num den (set.take nd.length)),I fl,.int .i64 0]
set_option maxHeartbeats 4000000 in
theorem Hf {W C:List Int} {nd:List (List Nat)} {B:Int} (h:Pb W C nd B) (num den:Int) (hm:Mul num den) (hw:WOK (gB W C num den)):HT Try.prog 11 [.agg (jD W C nd B),.int .i64 num,.int .i64 den] (J5 W C nd B num den):=by
 have hsz:=h.g.size
 have hlw:=h.lw
 have hlc:=h.lc
 have hnl:(nd.map nl).length=nd.length:=by simp
 have hav:=og h
 have hdo:=vI h num den hm hw
 simp only [I,Gs,jD,hlw,hlc,hnl] at hav hdo
 unfold J5
 refine HT.of rfl acL (Nat.le_of_ble_eq_true rfl) ?_
 unfold c11
 simp only [I,Gs,jD,aP,Nat.reduceAdd,hlw,hlc,hnl]
 repeat (first|refine ah ?_|refine ag ?_|refine ak ?_|refine ae ?_|refine eU rfl (by rfl) gU ?_|refine bM ?_|refine dX ?_)
 refine bf aJ dI (hav) ?_
 rintro _ rfl
 refine ⟨dE,_,_,_,_,_,dw,(by decide),aQ,?_⟩
 repeat (first|refine ah ?_|refine ag ?_|refine au ?_|refine ak ?_|refine ae ?_|refine aA ?_|refine dR (by rfl) ?_|refine bM ?_)
 refine bf aJ dI (hdo) ?_
 rintro _ ⟨fl,set,value,hD,rfl⟩
 refine ⟨dE,_,_,_,_,_,dw,(by decide),aQ,?_⟩
 repeat (first|refine ah ?_|refine ag ?_|refine bU ?_|refine ak ?_|refine dn ?_|refine iD gU ?_)
 have hE:(stripL (HL.bools (set.take nd.length)),stripL (HL.ints fl))=(HL.bools (set.take nd.length),HL.ints fl):=by rw [HL.bools_strip,HL.ints_strip]
 refine kE 224 [9,10] (⟨[(9,.ptr [.int .i64 num,.int .i64 den,.int .i64 (oh W C nd B num den (set.take nd.length)),.sl nd.length (HL.bools (set.take nd.length)),.sl (iM (gB W C num den) nd).length (HL.ints fl)] 0),(10,.int .i64 0)],[],0⟩:St) (congrArg (fun p:List HV×List HV=>(⟨[(9,.ptr [.int .i64 num,.int .i64 den,.int .i64 (oh W C nd B num den (set.take nd.length)),.sl nd.length p.1,.sl (iM (gB W C num den) nd).length p.2] 0),(10,.int .i64 0)],[],0⟩:St)) hE) ?_
 skip
 refine bQ bi bi (fun _ _ _=>False) ?_
 repeat (first|refine ah ?_|refine bK (by rfl) aT mg ?_|refine ag ?_|refine nK (by rfl) (by rfl) ?_)
 refine ay ?_
 refine ⟨fl,set,value,hD,?_⟩
 rw [hD.found.flow.len]
 rfl
set_option maxHeartbeats 4000000 in
theorem wK {W C:List Int} {nd:List (List Nat)} {B:Int} (h:Pb W C nd B) (num den:Int) (e:Int) (he:(¬ Mul num den/\e=1)\/(Mul num den/\¬ WOK (gB W C num den)/\e=5)):HT Try.prog 11 [.agg (jD W C nd B),.int .i64 num,.int .i64 den] (fun r=>r=.tup [.int .i64 0,.osl 1 0 [],.int .i64 e]):=by
 have hsz:=h.g.size
 have hlw:=h.lw
 have hlc:=h.lc
 have hnl:(nd.map nl).length=nd.length:=by simp
 have hav:=og h
 have hdo:=nR h num den e he
 simp only [I,Gs,jD,hlw,hlc,hnl] at hav hdo
 refine HT.of rfl acL (Nat.le_of_ble_eq_true rfl) ?_
 unfold c11
 simp only [I,Gs,jD,aP,Nat.reduceAdd,hlw,hlc,hnl]
 repeat (first|refine ah ?_|refine ag ?_|refine ak ?_|refine ae ?_|refine eU rfl (by rfl) gU ?_|refine bM ?_|refine dX ?_)
 refine bf aJ dI (hav) ?_
 rintro _ rfl
 refine ⟨dE,_,_,_,_,_,dw,(by decide),aQ,?_⟩
 repeat (first|refine ah ?_|refine ag ?_|refine au ?_|refine ak ?_|refine ae ?_|refine aA ?_|refine dR (by rfl) ?_|refine bM ?_)
 refine bf aJ dI (hdo) ?_
 rintro _ rfl
 refine ⟨dE,_,_,_,_,_,dw,(by decide),aQ,?_⟩
 repeat (first|refine ah ?_|refine ag ?_|refine bU ?_|refine ak ?_|refine dn ?_|refine iD gU ?_)
 refine bQ bi bi (fun _ _ _=>False) ?_
 repeat (first|refine ah ?_|refine aH ?_|refine ag ?_|refine eU rfl (by rfl) gU ?_|refine aC ?_)
 refine ay ?_
 rfl
set_option maxHeartbeats 4000000 in
theorem Lc {W C:List Int} {nd:List (List Nat)} {B:Int} (h:Pb W C nd B) (num den:Int) (hm:Mul num den) (hw:WOK (gB W C num den)) (hn:nd.length<=9):HT Try.prog 12 [.agg (jD W C nd B),.int .i64 num,.int .i64 den] (fun r=>∃S M,Best (gB W C num den) nd (2 ^ nd.length) S M/\r=.tup [.int .i64 ((M+num*B) / den),.int .i64 0]):=by
 have hsz:=h.g.size
 have hlw:=h.lw
 have hlc:=h.lc
 have hB:=h.b
 have hm2:=hm
 obtain ⟨hnum,hden⟩:=hm2
 have hnl:(nd.map nl).length=nd.length:=by simp
 have hL:=mV W C num den
 rw [hlw] at hL
 have hav:=qZ h
 have hwt:=nJ h num den hm
 have hmx:=IE (gB W C num den) nd _ h.g hw (by omega) hn
 simp only [I,Gs,jD,hlw,hlc,hnl,hL] at hav hwt hmx
 have bb:=mX hnum.1 hnum.2 hB.1 hB.2
 refine HT.of rfl aaM (Nat.le_of_ble_eq_true rfl) ?_
 unfold c12
 simp only [I,Gs,jD,aP,Nat.reduceAdd,hlw,hlc,hnl]
 repeat (first|refine ah ?_|refine ag ?_|refine ak ?_|refine ae ?_|refine bM ?_|refine dX ?_)
 refine bf aJ dI (hav) ?_
 rintro _ rfl
 refine ⟨dE,_,_,_,_,_,dw,(by decide),aQ,?_⟩
 repeat (first|refine ah ?_|refine aG ?_|refine dR (by rfl) ?_)
 refine bf aJ dI (Ce num den) ?_
 rintro _ ⟨b,rfl,hb⟩
 obtain rfl:=hb.2 hm
 refine ⟨dE,_,_,_,_,_,dw,(by decide),aQ,?_⟩
 repeat (first|refine ah ?_|refine aG ?_|refine ag ?_|refine aI ?_|refine au ?_|refine ak ?_|refine ae ?_|refine aA ?_|refine dR (by rfl) ?_|refine bM ?_)
 refine bf aJ dI (hwt) ?_
 rintro _ (⟨-,rfl⟩|⟨hx,-⟩)
 rotate_left
 ·exact absurd hw hx
 refine ⟨dE,_,_,_,_,_,dw,(by decide),aQ,?_⟩
 repeat (first|refine ah ?_|refine aH ?_|refine ag ?_|refine bU ?_|refine au ?_|refine ak ?_|refine ae ?_|refine aA ?_|refine dR (by rfl) ?_|refine aC ?_)
 refine bf aJ dI (hmx) ?_
 rintro _ ⟨b,M,rfl,hBM⟩
 refine ⟨dE,_,_,_,_,_,dw,(by decide),aQ,?_⟩
 obtain ⟨X0,-,hX0⟩:=hBM.some
 have hbd:=sW hw X0 nd.length
 rw [hX0] at hbd
 repeat (first|refine ah ?_|refine aH ?_|refine ag ?_|refine bz ?_|refine bU ?_|refine ak ?_|refine ae ?_|refine lg (by rfl) (by rfl) nV ?_|refine aC ?_)
 refine bf aJ dI (yO (M+num*B) den (by omega) (by omega) (by omega) (by omega)) ?_
 rintro _ rfl
 refine ⟨dE,_,_,_,_,_,dw,(by decide),aQ,?_⟩
 repeat (first|refine ah ?_|refine ag ?_)
 refine ay ?_
 exact ⟨b,M,hBM,rfl⟩
theorem uT {W C:List Int} {nd:List (List Nat)} {B:Int} (h:Pb W C nd B) (num den:Int) (e:Int) (he:(¬ Mul num den/\e=1)\/(Mul num den/\¬ WOK (gB W C num den)/\e=5)):HT Try.prog 12 [.agg (jD W C nd B),.int .i64 num,.int .i64 den] (fun r=>r=.tup [.int .i64 0,.int .i64 e]):=by
 have hsz:=h.g.size
 have hlw:=h.lw
 have hlc:=h.lc
 have hnl:(nd.map nl).length=nd.length:=by simp
 have hav:=qZ h
 refine HT.of rfl aaM (Nat.le_of_ble_eq_true rfl) ?_
 unfold c12
 simp only [I,Gs,jD,aP,Nat.reduceAdd,hlw,hlc,hnl] at hav ⊢
 repeat (first|refine ah ?_|refine ag ?_|refine ak ?_|refine ae ?_|refine bM ?_|refine dX ?_)
 refine bf aJ dI (hav) ?_
 rintro _ rfl
 refine ⟨dE,_,_,_,_,_,dw,(by decide),aQ,?_⟩
 repeat (first|refine ah ?_|refine aG ?_|refine dR (by rfl) ?_)
 refine bf aJ dI (Ce num den) ?_
 rintro _ ⟨b,rfl,hb⟩
 rcases he with ⟨h1,rfl⟩|⟨h1,h2,rfl⟩
 ·obtain rfl:b=false:=by
   cases b
   ·rfl
   ·exact absurd (hb.1 rfl) h1
  refine ⟨dE,_,_,_,_,_,dw,(by decide),aQ,?_⟩
  repeat (first|refine ah ?_|refine aG ?_|refine ag ?_|refine aI ?_|refine ax ?_|refine ak ?_|refine ae ?_|refine gZ (by rfl) ?_)
  refine ay ?_
  rfl
 ·obtain rfl:=hb.2 h1
  have hwt:=nJ h num den h1
  simp only [I,Gs,jD,hlw,hlc,hnl] at hwt
  refine ⟨dE,_,_,_,_,_,dw,(by decide),aQ,?_⟩
  repeat (first|refine ah ?_|refine aG ?_|refine ag ?_|refine aI ?_|refine au ?_|refine ak ?_|refine ae ?_|refine aA ?_|refine dR (by rfl) ?_|refine bM ?_)
  refine bf aJ dI (hwt) ?_
  rintro _ (⟨hx,-⟩|⟨-,rfl⟩)
  ·exact absurd hx h2
  refine ⟨dE,_,_,_,_,_,dw,(by decide),aQ,?_⟩
  repeat (first|refine ah ?_|refine ag ?_|refine bU ?_|refine ax ?_|refine ak ?_|refine ae ?_|refine gZ (by rfl) ?_)
  refine ay ?_
  rfl
end Go.Proofs.Yteamkjblpglliaa
end
