import Derived.Test.YteamkjblpglliaaFlCut
import Derived.Test.YteamkjblpglliaaGrPlain
import Derived.Test.YteamkjblpglliaaClFits
import Derived.Test.YteamkjblpglliaaClVal
section
set_option linter.unusedSimpArgs false
set_option linter.unusedVariables false
namespace Go.Proofs.Yteamkjblpglliaa
open Go.RowKit Go.SL
theorem Found.le_cap {n s t:Int} {es:List Edge} (hv:VNet n s t es) {fl:List Int} {set:List Bool} {v:Int} (h:Found n s t es fl set v) {D:List Bool} (hD:wH n s t D):v<=nZ D es es.length:=by
 have:=BR hv h.flow hD
 rw [h.val] at this
 exact this
theorem Found.val_eq {n s t:Int} {es:List Edge} (hv:VNet n s t es) {fl fl':List Int} {set set':List Bool} {v v':Int} (h:Found n s t es fl set v) (h':Found n s t es fl' set' v'):v=v':=by
 have h1:=h.le_cap hv h'.cut
 have h2:=h'.le_cap hv h.cut
 rw [h'.cap] at h1
 rw [h.cap] at h2
 omega
theorem Dl {a b:List Bool} (hl:a.length=b.length) (h:∀v,ins a v=ins b v):a=b:=by
 apply List.ext_getElem hl
 intro i h1 h2
 have:=h i
 simpa [ins,h1,h2] using this
theorem Found.set_eq {n s t:Int} {es:List Edge} (hv:VNet n s t es) {fl fl':List Int} {set set':List Bool} {v v':Int} (h:Found n s t es fl set v) (h':Found n s t es fl' set' v'):set=set':=by
 have e:=h.val_eq hv h'
 have l1:=h.cut.len
 have l2:=h'.cut.len
 refine Dl (by omega) fun u=>?_
 have a1:=h.least set' h'.cut (h'.cap.trans e.symm) u
 have a2:=h'.least set h.cut (h.cap.trans e) u
 cases h1:ins set u<;>cases h2:ins set' u<;>simp_all
theorem rO (l:List Int) (i j:Nat) (x:Int) (hi:i<l.length):(l.set i x).getD j 0=if i=j then x else l.getD j 0:=by
 simp only [List.getD_eq_getElem?_getD,List.getElem?_set]
 split
 ·rename_i h;subst h;simp [hi]
 ·rfl
theorem LK {n s t:Int} {es:List Edge} (hv:VNet n s t es) (fl:List Int):∀k,k<=es.length->∀u:Nat,(jh n.toNat es fl k).getD u 0=if u<n.toNat then oJ es fl u k else 0:=by
 intro k
 induction k with
 | zero=>intro _ u;simp only [jh,oJ,List.getD_eq_getElem?_getD,List.getElem?_replicate];split<;>rfl
 | succ k ih =>
  intro hk u
  have ih':=ih (by omega)
  obtain ⟨h1,h2,h3,h4,h5,_,_⟩:=hv.all _ (List.getElem_mem (show k<es.length by omega))
  have he:es.getD k default=es[k]'(by omega):=by simp [show k<es.length by omega]
  have hl:=uJ n.toNat es fl k
  simp only [jh,uz,oJ,he]
  have hne:(es[k]'(by omega)).f.toNat≠(es[k]'(by omega)).t.toNat:=by omega
  rw [rO _ _ _ _ (by simp [hl];omega),rO _ _ _ _ (by simp [hl];omega),rO _ _ _ _ (by simp [hl];omega),if_neg hne,ih',ih',ih']
  by_cases c1:(es[k]'(by omega)).t.toNat=u
  ·subst c1
   rw [if_pos rfl,if_neg hne,if_pos rfl,if_pos (by omega)]
   omega
  ·rw [if_neg c1,if_neg c1]
   by_cases c2:(es[k]'(by omega)).f.toNat=u
   ·subst c2
    rw [if_pos rfl,if_pos rfl,if_pos (by omega)]
    omega
   ·rw [if_neg c2,if_neg c2]
    split<;>omega
theorem xO {n s t:Nat} {es:List Edge} (hv:VNet n s t es) {fl:List Int} (hf:vJ n s t es fl) {x y:Int} (h:CheckR n s t es fl x y):x=oJ es fl s es.length/\y=0:=by
 have hb:=hv.bounds
 have hn:∀u:Nat,(jh n es fl es.length).getD u 0=if u<n then oJ es fl u es.length else 0:=fun u=>by
  have:=LK hv fl _ (Nat.le_refl _) u
  simpa using this
 have hodd:¬ wP s t (jh n es fl es.length) n:=by
  rintro ⟨u,h1,h2,h3,h4⟩
  refine h4 ?_
  rw [hn,if_pos h1]
  exact hf.bal u (by omega) h2 h3
 rcases h with ⟨a,_,_⟩|⟨_,a,_,_⟩|⟨_,_,rfl,rfl⟩
 ·exact absurd hf.ok a
 ·exact absurd a hodd
 ·refine ⟨?_,rfl⟩
  simp only [Int.toNat_natCast]
  rw [hn,if_pos (by omega)]
end Go.Proofs.Yteamkjblpglliaa
end
section
set_option linter.unusedSimpArgs false
set_option linter.unusedVariables false
namespace Go.Proofs.Yteamkjblpglliaa
open Go.RowKit Go.SL
def qj (n:Nat) (i:Nat) (x:Int):List Edge:=if 0<x then [⟨n,i,x⟩] else if x<0 then [⟨i,(n:Int)+1,-x⟩] else []
def iF (n:Nat) (w:List Int):Nat->List Edge
 | 0=>[]
 | k+1=>iF n w k++qj n k (w.getD k 0)
def tC (i j:Nat):List Edge:=if j=i then [] else [⟨i,j,1099511627776⟩]
def iL (i:Nat) (row:List Nat):Nat->List Edge
 | 0=>[]
 | k+1=>iL i row k++tC i (row.getD k 0)
def iP (nd:List (List Nat)):Nat->List Edge
 | 0=>[]
 | k+1=>iP nd k++iL k (nd.getD k []) (nd.getD k []).length
def iM (w:List Int) (nd:List (List Nat)):List Edge:=iF nd.length w nd.length++iP nd nd.length
def WOK (w:List Int):Prop:=∀i,-2147483648<=w.getD i 0/\w.getD i 0<=2147483648
section
variable {w:List Int} {nd:List (List Nat)} {bad:List Bool} {n:Nat}
theorem kH (n:Nat) (w:List Int):∀k,(iF n w k).length<=k
 | 0=>by simp [iF]
 | k+1=>by
  have:=kH n w k
  simp only [iF,List.length_append,qj]
  split
  ·simp;omega
  ·split<;>simp<;>omega
theorem qx (i:Nat) (row:List Nat):∀k,(iL i row k).length<=k
 | 0=>by simp [iL]
 | k+1=>by
  have:=qx i row k
  simp only [iL,List.length_append,tC]
  split<;>simp<;>omega
theorem xK {i:Nat} {row:List Nat} {e:Edge}:∀ {k},k<=row.length->(e∈iL i row k <-> ∃q,q<k/\row.getD q 0≠i/\e=⟨i,row.getD q 0,1099511627776⟩)
 | 0,_=>by simp [iL]
 | k+1,h=>by
  have ih:=xK (i:=i) (row:=row) (e:=e) (k:=k) (by omega)
  simp only [iL,List.mem_append,ih,tC]
  constructor
  ·rintro (⟨q,h1,h2,h3⟩|h1)
   ·exact ⟨q,by omega,h2,h3⟩
   ·split at h1
    ·cases h1
    ·rename_i hne
     exact ⟨k,by omega,hne,by simpa using h1⟩
  ·rintro ⟨q,h1,h2,h3⟩
   by_cases hq:q=k
   ·subst hq;right;rw [if_neg h2,h3];simp
   ·exact .inl ⟨q,by omega,h2,h3⟩
theorem mem_nEdges {e:Edge}:∀ {k},e∈iP nd k <-> ∃i j,i<k/\j∈nd.getD i []/\j≠i/\e=⟨i,j,1099511627776⟩
 | 0=>by simp [iP]
 | k+1=>by
  have ih:=mem_nEdges (e:=e) (k:=k)
  simp only [iP,List.mem_append,ih,xK (Nat.le_refl _)]
  constructor
  ·rintro (⟨i,j,h1,h2⟩|⟨q,h1,h2,h3⟩)
   ·exact ⟨i,j,by omega,h2⟩
   ·exact ⟨k,_,by omega,getD_mem _ q 0 h1,h2,h3⟩
  ·rintro ⟨i,j,h1,h2,h3,h4⟩
   by_cases hi:i=k
   ·subst hi
    obtain ⟨q,hq,rfl⟩:=Ef 0 h2
    exact .inr ⟨q,hq,h3,h4⟩
   ·exact .inl ⟨i,j,by omega,h2,h3,h4⟩
theorem mem_wEdges {e:Edge}:∀ {k},e∈iF n w k <-> ∃i,i<k/\(0<w.getD i 0/\e=⟨n,i,w.getD i 0⟩\/w.getD i 0<0/\e=⟨i,(n:Int)+1,-(w.getD i 0)⟩)
 | 0=>by simp [iF]
 | k+1=>by
  have ih:=mem_wEdges (e:=e) (k:=k)
  simp only [iF,List.mem_append,ih,qj]
  constructor
  ·rintro (⟨i,h1,h2⟩|h1)
   ·exact ⟨i,by omega,h2⟩
   ·split at h1
    ·rename_i hp;exact ⟨k,by omega,.inl ⟨hp,by simpa using h1⟩⟩
    ·split at h1
     ·rename_i hp;exact ⟨k,by omega,.inr ⟨hp,by simpa using h1⟩⟩
     ·cases h1
  ·rintro ⟨i,h1,h2⟩
   by_cases hi:i=k
   ·subst hi
    right
    rcases h2 with ⟨h2,h3⟩|⟨h2,h3⟩
    ·rw [if_pos h2,h3];simp
    ·rw [if_neg (by omega),if_pos h2,h3];simp
   ·exact .inl ⟨i,by omega,h2⟩
theorem Gy (i n:Nat) (row:List Nat) (hs:row.Pairwise (·<·)) (hlt:∀x∈row,x<n) (hi:i<n):(iL i row row.length).length+1<=n:=by
 have key:∀k,k<=row.length->(iL i row k).length=((row.take k).filter fun x=>decide (x≠i)).length:=by
  intro k
  induction k with
  | zero=>intro _;simp [iL]
  | succ k ih =>
   intro hk
   have ih:=ih (by omega)
   rw [List.take_succ_eq_append_getElem (show k<row.length by omega),List.filter_append,List.length_append,<- ih]
   simp only [iL,List.length_append,tC]
   have e:row.getD k 0=row[k]:=by simp [show k<row.length by omega]
   rw [e]
   by_cases h:row[k]=i
   ·simp [h]
   ·simp [h]
 have h1:=key row.length (Nat.le_refl _)
 rw [List.take_length] at h1
 have hnd:(i::(row.filter fun x=>decide (x≠i))).Nodup:=by
  rw [List.nodup_cons]
  refine ⟨by simp,?_⟩
  exact List.Pairwise.filter _ (hs.imp fun h=>by omega)
 have:=jY hnd (n:=n) (fun u hu=>by
  rcases List.mem_cons.1 hu with rfl|hu
  ·exact hi
  ·exact hlt u (List.mem_filter.1 hu).1)
 rw [List.length_cons] at this
 omega
theorem o9 (g:Gr nd bad):∀k,k<=nd.length->(iP nd k).length+k<=k*nd.length
 | 0,_=>by simp [iP]
 | k+1,h=>by
  have ih:=o9 g k (by omega)
  have:=Gy k nd.length (nd.getD k []) (g.sorted k) (g.lt k) (by omega)
  simp only [iP,List.length_append]
  rw [Nat.succ_mul]
  omega
theorem jX (g:Gr nd bad) (w:List Int):(iM w nd).length<=nd.length*nd.length:=by
 have h1:=kH nd.length w nd.length
 have h2:=o9 g nd.length (Nat.le_refl _)
 unfold iM
 rw [List.length_append]
 omega
theorem Ij (g:Gr nd bad) (hw:WOK w):VNet ((nd.length:Int)+2) nd.length ((nd.length:Int)+1) (iM w nd):=by
 have hsz:=g.size
 have hlen:=jX g w
 have:nd.length*nd.length<=256*256:=Nat.mul_le_mul hsz hsz
 refine ⟨by omega,by omega,by omega,by omega,by omega,by omega,by omega,by omega,fun e he=>?_⟩
 unfold iM at he
 rcases List.mem_append.1 he with he|he
 ·obtain ⟨i,hi,⟨h1,rfl⟩|⟨h1,rfl⟩⟩:=mem_wEdges.1 he
  ·have:=hw i
   exact ⟨by simp only;omega,by simp only;omega,by simp only;omega,by simp only;omega,by simp only;omega,by simp only;omega,by simp only;omega⟩
  ·have:=hw i
   exact ⟨by simp only;omega,by simp only;omega,by simp only;omega,by simp only;omega,by simp only;omega,by simp only;omega,by simp only;omega⟩
 ·obtain ⟨i,j,h1,h2,h3,rfl⟩:=mem_nEdges.1 he
  have:=g.lt i j h2
  exact ⟨by simp only;omega,by simp only;omega,by simp only;omega,by simp only;omega,by simp only;omega,by simp only;omega,by simp only;omega⟩
end
end Go.Proofs.Yteamkjblpglliaa
end
section
set_option linter.unusedSimpArgs false
set_option linter.unusedVariables false
namespace Go.Proofs.Yteamkjblpglliaa
open Go.RowKit Go.SL Go.HL
theorem VW.of {w:List Int} {nd:List (List Nat)} {bad:List Bool} (g:Gr nd bad) (hw:WOK w) (hl:w.length=nd.length):VW w (nd.map nl) :=
 ⟨by simpa using hl,by simpa using g.size,fun i _=>hw i,g.vg.ok⟩
set_option maxHeartbeats 8000000 in
theorem xm (w:List Int) (nd:List (List Nat)) (bad:List Bool) (g:Gr nd bad) (hw:WOK w) (hl:w.length=nd.length):HT Try.prog 15 [I w,Gs (nd.map nl)] (fun r=>r=.tup [.int .i64 ((nd.length:Int)+2),.osl 3 (iM w nd).length (edges (iM w nd))]):=by
 have hsz:=g.size
 have hnl:(nd.map nl).length=nd.length:=by simp
 have hNl:=jX g w
 have hN2:nd.length*nd.length<=256*256:=Nat.mul_le_mul hsz hsz
 have hvw:=VW.of g hw hl
 have hcv:=zN w (nd.map nl) (by omega) (by omega) (fun i=>by rw [dM,fH];have:=g.len i;omega)
 simp only [Gs,I] at hcv
 rw [hnl,hl] at hcv
 refine HT.of rfl ae0 (Nat.le_of_ble_eq_true rfl) ?_
 unfold c15
 simp only [Gs,I,aP,Nat.reduceAdd]
 rw [hnl,hl]
 repeat (first|refine ah ?_|refine ag ?_|refine ak ?_|refine ae ?_|refine eU rfl (by rfl) gU ?_)
 refine bf aJ dI (hcv) ?_
 rintro _ ⟨b,rfl,hb⟩
 obtain rfl:b=true:=hb.2 hvw
 refine ⟨dE,_,_,_,_,_,dw,(by decide),aQ,?_⟩
 repeat (first|refine ah ?_|refine ag ?_|refine aF ?_|refine au ?_|refine ak ?_|refine ae ?_|refine aB ?_|refine aA ?_|refine eU rfl (by rfl) gU ?_|refine dR (by rfl) ?_)
 refine bD [1,6,7,20,21,22] (fun s:Nat×List Edge=>s.1<=nd.length/\s.2=iF nd.length w s.1)
  (fun s=>⟨[(1,.sl nd.length (aZ (nd.map nl))),(6,.int .i64 nd.length),(7,.ref 0 [] 3 0 s.2.length),(20,.sl nd.length (HL.ints w)),(21,.int .i64 nd.length),(22,.int .i64 s.1)],[(0,.osl 3 s.2.length (edges s.2))],1⟩)
  (fun s=>nd.length - s.1) (0,[]) ⟨by simp,rfl⟩ rfl ?_
 rintro ⟨i,es⟩ ⟨hi,hes⟩
 simp only at hi hes ⊢
 have hel:es.length<=i:=by rw [hes];exact kH _ _ _
 by_cases hin:i<nd.length
 ·obtain ⟨x,hx⟩:∃x,w.getD i 0=x:=⟨_,rfl⟩
  have hxr:=hw i
  rw [hx] at hxr
  have hnx:es++qj nd.length i x=iF nd.length w (i+1):=by rw [hes,<- hx];rfl
  by_cases hp:0<x
  ·have hsn:es++[⟨nd.length,i,x⟩]=iF nd.length w (i+1):=by rw [<- hnx];unfold qj;rw [if_pos hp]
   repeat (first|refine ah ?_|refine aN ?_|refine bK (by rfl) aT (by (try simp (disch:=omega) only [go_sem,hx]);try rfl) ?_|refine ag ?_|refine az ?_|refine di (by rfl) (by rfl) (by (try simp (disch:=omega) only [go_sem,Int.reduceAdd,Int.reduceSub,Int.reduceMul,hx]);try rfl) ?_|refine ax ?_|refine ak ?_|refine ae ?_|refine aB ?_|refine dh ?_|refine aA ?_|refine bn ?_|refine dF ?_|refine jq gU (by rfl) fP AY (by (try simp (disch:=omega) only [go_sem,reduceIte,Nat.reduceEqDiff,Nat.reduceAdd,Nat.reduceMul,hx]);try omega) dm (by (try simp (disch:=omega) only [go_sem,reduceIte,Nat.reduceEqDiff,Nat.reduceAdd,Nat.reduceMul,hx]);try rfl) gU (by omega) jT aT (by (try simp (disch:=omega) only [go_sem,reduceIte,Nat.reduceEqDiff,Nat.reduceAdd,Nat.reduceMul,hx]);try rfl) bW ?_|refine nC ng nD (by simp [iU]) ?_)
   exact bJ [1,6,7,20,21,22] (i+1,es++[⟨nd.length,i,x⟩]) ⟨hin,hsn⟩ dV (by simp only [List.length_append,List.length_cons,List.length_nil,Nat.zero_add];rfl)
  ·by_cases hm:x<0
   ·have hsn:es++[⟨i,(nd.length:Int)+1,0 - x⟩]=iF nd.length w (i+1):=by rw [<- hnx];unfold qj;rw [if_neg hp,if_pos hm,Int.zero_sub]
    repeat (first|refine ah ?_|refine aN ?_|refine bK (by rfl) aT (by (try simp (disch:=omega) only [go_sem,hx]);try rfl) ?_|refine ag ?_|refine az ?_|refine di (by rfl) (by rfl) (by (try simp (disch:=omega) only [go_sem,Int.reduceAdd,Int.reduceSub,Int.reduceMul,hx]);try rfl) ?_|refine ax ?_|refine au ?_|refine ak ?_|refine ae ?_|refine aB ?_|refine dh ?_|refine aA ?_|refine bn ?_|refine Df (by rfl) (by (try simp (disch:=omega) only [go_sem,Int.reduceAdd,Int.reduceSub,Int.reduceMul,hx]);try rfl) ?_|refine dF ?_|refine jq gU (by rfl) fP AY (by (try simp (disch:=omega) only [go_sem,reduceIte,Nat.reduceEqDiff,Nat.reduceAdd,Nat.reduceMul,hx]);try omega) dm (by (try simp (disch:=omega) only [go_sem,reduceIte,Nat.reduceEqDiff,Nat.reduceAdd,Nat.reduceMul,hx]);try rfl) gU (by omega) jT aT (by (try simp (disch:=omega) only [go_sem,reduceIte,Nat.reduceEqDiff,Nat.reduceAdd,Nat.reduceMul,hx]);try rfl) bW ?_|refine nC ng nD (by simp [iU]) ?_)
    exact bJ [1,6,7,20,21,22] (i+1,es++[⟨i,(nd.length:Int)+1,0 - x⟩]) ⟨hin,hsn⟩ dV (by simp only [List.length_append,List.length_cons,List.length_nil,Nat.zero_add];rfl)
   ·have hsn:es=iF nd.length w (i+1):=by rw [<- hnx];unfold qj;rw [if_neg hp,if_neg hm,List.append_nil]
    repeat (first|refine ah ?_|refine aN ?_|refine bK (by rfl) aT (by (try simp (disch:=omega) only [go_sem,hx]);try rfl) ?_|refine ag ?_|refine az ?_|refine di (by rfl) (by rfl) (by (try simp (disch:=omega) only [go_sem,Int.reduceAdd,Int.reduceSub,Int.reduceMul,hx]);try rfl) ?_|refine ax ?_|refine au ?_|refine ak ?_|refine ae ?_|refine aB ?_|refine dh ?_|refine aA ?_|refine bn ?_)
    exact bJ [1,6,7,20,21,22] (i+1,es) ⟨hin,hsn⟩ dV rfl
 ·obtain rfl:i=nd.length:=by omega
  obtain ⟨W,hW⟩:∃W,iF nd.length w nd.length=W:=⟨_,rfl⟩
  have hWl:W.length<=nd.length:=by rw [<- hW];exact kH _ _ _
  have hnet:iM w nd=W++iP nd nd.length:=by unfold iM;rw [hW]
  rw [hW] at hes
  subst hes
  repeat (first|refine ah ?_|refine ag ?_|refine az ?_|refine aF ?_|refine aO ?_|refine au ?_|refine ak ?_|refine ae ?_|refine aB ?_)
  refine bD [6,7,50,51,52] (fun s:Nat×List Edge=>s.1<=nd.length/\s.2=es++iP nd s.1)
   (fun s=>⟨[(6,.int .i64 nd.length),(7,.ref 0 [] 3 0 s.2.length),(50,.sl nd.length (aZ (nd.map nl))),(51,.int .i64 nd.length),(52,.int .i64 s.1)],[(0,.osl 3 s.2.length (edges s.2))],1⟩)
   (fun s=>nd.length - s.1) (0,es) ⟨by simp,by simp [iP]⟩ rfl ?_
  rintro ⟨i,fs⟩ ⟨hi,hfs⟩
  simp only at hi hfs ⊢
  have hNi:=o9 g i hi
  have hfl:fs.length<=70000:=by
   rw [hfs,List.length_append]
   have:i*nd.length<=256*256:=Nat.mul_le_mul (by omega) hsz
   omega
  by_cases hin:i<nd.length
  ·obtain ⟨row,hrow⟩:∃row,nd.getD i []=row:=⟨_,rfl⟩
   have hrl:row.length<=nd.length:=by rw [<- hrow];exact g.len i
   have hrlt:∀x∈row,x<nd.length:=by rw [<- hrow];exact g.lt i
   have hnr:=fH row
   repeat (first|refine ah ?_|refine aN ?_|refine bK (by rfl) aT (by (try simp (disch:=omega) only [go_sem,dM,hrow]);try rfl) ?_|refine ag ?_|refine az ?_|refine aF ?_|refine ax ?_|refine ak ?_|refine ae ?_|refine aB ?_|refine aA ?_)
   refine bD [6,7,10,50,51,52,57,58,59] (fun s:Nat×List Edge=>s.1<=row.length/\s.2=fs++iL i row s.1)
    (fun s=>⟨[(6,.int .i64 nd.length),(7,.ref 0 [] 3 0 s.2.length),(10,.int .i64 i),(50,.sl nd.length (aZ (nd.map nl))),(51,.int .i64 nd.length),(52,.int .i64 i),(57,.sl row.length (HL.ints (nl row))),(58,.int .i64 row.length),(59,.int .i64 s.1)],[(0,.osl 3 s.2.length (edges s.2))],1⟩)
    (fun s=>row.length - s.1) (0,fs) ⟨by simp,by simp [iL]⟩ rfl ?_
   rintro ⟨k,hs⟩ ⟨hk,hhs⟩
   simp only at hk hhs ⊢
   have hkl0:=qx i row k
   have hsl:hs.length<=71000:=by rw [hhs,List.length_append];omega
   by_cases hkl:k<row.length
   ·obtain ⟨v,hv⟩:∃v,row.getD k 0=v:=⟨_,rfl⟩
    have hvn:v<nd.length:=by rw [<- hv];exact hrlt _ (getD_mem row _ 0 hkl)
    have hnx:hs++tC i v=fs++iL i row (k+1):=by rw [hhs,<- hv,List.append_assoc];rfl
    by_cases hvi:v=i
    ·subst hvi
     have hsn:hs=fs++iL v row (k+1):=by rw [<- hnx];unfold tC;rw [if_pos rfl,List.append_nil]
     repeat (first|refine ah ?_|refine aN ?_|refine bK (by rfl) aT (by (try simp (disch:=omega) only [go_sem,hv]);try rfl) ?_|refine ag ?_|refine az ?_|refine aW ?_|refine di (by rfl) (by rfl) (by (try simp (disch:=omega) only [go_sem,Int.reduceAdd,Int.reduceSub,Int.reduceMul,hv]);try rfl) ?_|refine ax ?_|refine au ?_|refine ak ?_|refine ae ?_|refine aB ?_|refine dh ?_|refine aA ?_)
     exact bJ [6,7,10,50,51,52,57,58,59] (k+1,hs) ⟨hkl,hsn⟩ dV rfl
    ·have hsn:hs++[⟨i,v,1099511627776⟩]=fs++iL i row (k+1):=by rw [<- hnx];unfold tC;rw [if_neg hvi]
     repeat (first|refine ah ?_|refine aN ?_|refine bK (by rfl) aT (by (try simp (disch:=omega) only [go_sem,hv]);try rfl) ?_|refine ag ?_|refine az ?_|refine aW ?_|refine di (by rfl) (by rfl) (by (try simp (disch:=omega) only [go_sem,Int.reduceAdd,Int.reduceSub,Int.reduceMul,hv]);try rfl) ?_|refine ax ?_|refine ak ?_|refine ae ?_|refine aB ?_|refine dh ?_|refine aA ?_|refine dF ?_|refine jq gU (by rfl) fP AY (by (try simp (disch:=omega) only [go_sem,reduceIte,Nat.reduceEqDiff,Nat.reduceAdd,Nat.reduceMul,hv]);try omega) dm (by (try simp (disch:=omega) only [go_sem,reduceIte,Nat.reduceEqDiff,Nat.reduceAdd,Nat.reduceMul,hv]);try rfl) gU (by omega) jT aT (by (try simp (disch:=omega) only [go_sem,reduceIte,Nat.reduceEqDiff,Nat.reduceAdd,Nat.reduceMul,hv]);try rfl) bW ?_|refine nC ng nD (by simp [iU]) ?_)
     exact bJ [6,7,10,50,51,52,57,58,59] (k+1,hs++[⟨i,v,1099511627776⟩]) ⟨hkl,hsn⟩ dV (by simp only [List.length_append,List.length_cons,List.length_nil,Nat.zero_add];rfl)
   ·obtain rfl:k=row.length:=by omega
    have hsn:hs=es++iP nd (i+1):=by rw [hhs,hfs,List.append_assoc,<- hrow];rfl
    repeat (first|refine ah ?_|refine ag ?_|refine az ?_|refine bz ?_|refine aO ?_|refine au ?_|refine ak ?_|refine ae ?_|refine dh ?_)
    exact bJ [6,7,50,51,52] (i+1,hs) ⟨hin,hsn⟩ dV rfl
  ·obtain rfl:i=nd.length:=by omega
   repeat (first|refine ah ?_|refine ag ?_|refine az ?_|refine bz ?_|refine aO ?_|refine au ?_|refine ak ?_|refine ae ?_)
   refine ay ?_
   rw [hnet,<- hfs]
   rfl
end Go.Proofs.Yteamkjblpglliaa
end
