import Derived.Test.YtlbdmpjnmfmnfaaDmF
import Derived.Test.YtlbdmpjnmfmnfaaHlW
set_option linter.unusedSimpArgs false
set_option linter.unusedVariables false
set_option maxHeartbeats 8000000
namespace Go.Proofs.Ytlbdmpjnmfmnfaa
open Go.RowKit Go.HL Go.FS Go.MN
def ky (l:List Int):List Int:=l.flatMap fun i=>[i % 256,i / 256 % 256]
theorem ZA (l:List Int) (i:Int):ky (l++[i])=ky l++[i % 256,i / 256 % 256]:=by simp [ky]
theorem WM (l:List Int):(ky l).length=2*l.length:=by
 induction l with
 | nil=>rfl
 | cons i l ih=>rw [show ky (i::l)=[i % 256,i / 256 % 256]++ky l from rfl,dQ,ih,List.length_cons];simp;omega
theorem aay (l:List Int):∀x∈ky l,0<=x/\x<256:=by
 intro x hx
 simp only [ky,zl055,zl011,F9,or_false] at hx
 obtain ⟨i,_,rfl|rfl⟩:=hx<;>omega
theorem aa5:∀ {l l':List Int},(∀i∈l,0<=i/\i<65536)->(∀i∈l',0<=i/\i<65536)->ky l=ky l'->l=l':=by
 intro l
 induction l with
 | nil=>intro l' _ _ h;cases l' with
  | nil=>rfl
  | cons=>cases h
 | cons i l ih =>
  intro l' h1 h2 h
  cases l' with
  | nil=>cases h
  | cons j l' =>
   rw [show ky (i::l)=i % 256::i / 256 % 256::ky l from rfl,show ky (j::l')=j % 256::j / 256 % 256::ky l' from rfl] at h
   simp only [vk] at h
   have a:=h1 i (by simp)
   have b:=h2 j (by simp)
   rw [show i=j by omega,ih (fun x hx=>h1 x (by simp [hx])) (fun x hx=>h2 x (by simp [hx])) h.2.2]
def xe (l:List Int):List UInt8:=Ob (ky l)
theorem KE {l l':List Int} (h1:∀i∈l,0<=i/\i<65536) (h2:∀i∈l',0<=i/\i<65536) (h:xe l=xe l'):l=l':=aa5 h1 h2 (Sr (aay l) (aay l') h)
def EM (Ls:List (List Int)):HV:=.optr [.omap ⟨.str,none⟩ ((Ls.map xe).map vW) (lU (Ls.map xe).length)]
def E5 (Ls:List (List Int)):HV:=.optr [.osl 1 Ls.length (iO Ls)]
def ix {α:Type} [DecidableEq α] (l:List α) (a:α):Nat:=l.idxOf a
def insL (Ls:List (List Int)) (l:List Int):List (List Int):=if l∈Ls then Ls else Ls++[l]
theorem Zn {l:List Int} {j:Nat} (h:j<l.length):ky (l.take (j+1))=ky (l.take j)++[l.getD j 0 % 256,l.getD j 0 / 256 % 256]:=by
 rw [rG,bn h,bf,bn h]
 exact ZA _ _
theorem aan (K:List Int) (a b:Int):by8 K++[.int .u8 a,.int .u8 b]=by8 (K++[a,b]):=by simp [by8]
theorem Og (Ls:List (List Int)) (l:List Int) (hl:l.length<=100000) (hLs:Ls.length<=100000) (hin:∀i∈l,0<=i/\i<65536) (hins:∀u∈Ls,∀i∈u,0<=i/\i<65536) :
  HTI Try.prog 93 [.osl 1 l.length (HL.ints l),EM Ls,E5 Ls] [1,2] (fun r outs=>r=.int .i64 ((ix (insL Ls l) l:Nat):Int)/\outs=[EM (insL Ls l),E5 (insL Ls l)]):=by
 refine HTI.of rfl ae7 (bF rfl) 3 [1,2] (by rfl) (by rfl) (⟨[(0,.ref 0 [] 1 0 l.length),(1,.pref 1 [] 0),(2,.pref 2 [] 0)],[(0,.osl 1 l.length (HL.ints l)),(1,EM Ls),(2,E5 Ls)],3⟩:St) rfl ?_
 unfold c93
 unfold EM E5
 refine zF ⟨?_⟩
 refine aF [0,1,2,5,10,11,12] (fun j:Nat=>j<=l.length)
  (fun j=>⟨[(0,.ref 0 [] 1 0 l.length),(1,.pref 1 [] 0),(2,.pref 2 [] 0),(5,.ref 3 [] 1 0 (ky (l.take j)).length),(10,.ref 0 [] 1 0 l.length),(11,.int .i64 l.length),(12,.int .i64 j)],[(0,.osl 1 l.length (HL.ints l)),(1,.optr [.omap ⟨.str,none⟩ ((Ls.map xe).map vW) (lU (Ls.map xe).length)]),(2,.optr [.osl 1 Ls.length (iO Ls)]),(3,.osl 1 (ky (l.take j)).length (by8 (ky (l.take j))))],4⟩)
  (fun j=>l.length - j) 0 (dS _) rfl ?_
 intro j hj
 have hkl:=WM (l.take j)
 rw [eu] at hkl
 by_cases hjl:j<l.length
 ·have hx:(HL.ints l).getD j .dead=.int .i64 (l.getD j 0):=AX hjl
  have hk:=Zn hjl
  generalize l.getD j 0=i at hx hk
  generalize hK:ky (l.take j)=K at hk hkl ⊢
  have hw:=zl K K.length rfl
  have h2:=aan K (i % 256) (i / 256 % 256)
  have hl2:(K++[i % 256,i / 256 % 256]).length=K.length+2:=by simp
  rw [<- hk] at h2 hl2
  repeat (first|refine AB af rfl ?_|refine rD bP ?_|refine bg ?_|refine aU ?_|refine uk (by rfl) (by rfl) DR ?_|refine fF ?_|refine fM (by rfl) ?_|refine fO (by rfl) ?_|refine uC (by rfl) (by rfl) ?_|refine fD ?_|refine qJ (by rfl) ?_|refine og (by rfl) ?_|refine ug (by rfl) bD (by (try simp (disch:=omega) only [go_sem,reduceIte,Nat.reduceEqDiff,Nat.reduceAdd,Nat.reduceMul,hx,wrap_u8,eG,hw,h2]);try rfl) az (by (try simp (disch:=omega) only [go_sem,hx,wrap_u8,eG,hw,h2]);try rfl) af ?_|refine sQ (by rfl) (by rfl) (by (try simp (disch:=omega) only [go_sem,Int.reduceAdd,Int.reduceSub,Int.reduceMul,hx,wrap_u8,eG,hw,h2]);try rfl) ?_|refine uS (by rfl) az (by (try simp (disch:=omega) only [go_sem,hx,wrap_u8,eG,hw,h2]);try rfl) ?_|refine uz (by rfl) (by rfl) (by omega) bP ?_|refine Az ?_|refine kK (by rfl) af ?_|refine kH (by rfl) af ?_|refine xK (by rfl) (by rfl) ?_|refine xW (by rfl) (by rfl) ?_|refine uK (by rfl) (by rfl) uA ?_|refine gJ (by rfl) ?_|refine Di (by rfl) (by rfl) ?_|refine yx (by rfl) (by rfl) DR ?_|refine CE (by rfl) af ak dK (by rfl) (by decide) bD ak az (by (try simp (disch:=omega) only [go_sem,hx,wrap_u8,eG,hw,h2]);try rfl) ak ?_|refine wU (by rfl) af ak jI uI (by rfl) wF (by rfl) wY (by (try simp (disch:=omega) only [go_sem,reduceIte,Nat.reduceEqDiff,Nat.reduceAdd,Nat.reduceMul,hx,wrap_u8,eG,hw,h2]);try rfl) az (by (try simp (disch:=omega) only [go_sem,hx,wrap_u8,eG,hw,h2]);try rfl) ak iL ?_|refine vg (by rfl) (by rfl) (by omega) bP ?_|refine nC (by rfl) ?_|refine qN bP ?_|refine jD ?_|refine sK (by rfl) az af ?_|refine oq rfl (by rfl) bP ?_|refine qR (by rfl) az (by (try simp (disch:=omega) only [go_sem,reduceIte,Nat.reduceEqDiff,Nat.reduceAdd,Nat.reduceMul,hx,wrap_u8,eG,hw,h2]);try rfl) ?_|refine uX (by rfl) (by rfl) uQ ?_|refine ou (by rfl) ?_|refine pJ (by rfl) bD ak az (by decide) (by (try simp (disch:=omega) only [go_sem,reduceIte,Nat.reduceEqDiff,Nat.reduceAdd,Nat.reduceMul,hx,wrap_u8,eG,hw,h2]);try rfl) dK ?_|refine qK bP (by rfl) af rU (by (try simp (disch:=omega) only [go_sem,reduceIte,Nat.reduceEqDiff,Nat.reduceAdd,Nat.reduceMul,hx,wrap_u8,eG,hw,h2]);try omega) (by omega) gz ?_|refine pI bP (by rfl) af rU (by (try simp (disch:=omega) only [go_sem,reduceIte,Nat.reduceEqDiff,Nat.reduceAdd,Nat.reduceMul,hx,wrap_u8,eG,hw,h2]);try omega) bD (by (try simp (disch:=omega) only [go_sem,reduceIte,Nat.reduceEqDiff,Nat.reduceAdd,Nat.reduceMul,hx,wrap_u8,eG,hw,h2]);try rfl) bP (by omega) gz az (by (try simp (disch:=omega) only [go_sem,reduceIte,Nat.reduceEqDiff,Nat.reduceAdd,Nat.reduceMul,hx,wrap_u8,eG,hw,h2]);try rfl) ak ?_|refine xI (by rfl) (by rfl) kM ?_|refine xH yA xZ (by simp [jM]) ?_|refine oz bP af ak dK (by rfl) ?_|refine xM (by rfl) (by rfl) (by (try simp (disch:=omega) only [go_sem,Int.reduceAdd,Int.reduceSub,Int.reduceMul,hx,wrap_u8,eG,hw,h2]);try rfl) ?_|refine ni (by rfl) ?_|refine yB (by rfl) (by rfl) kM ?_|refine mY af rfl ?_|refine qM bP (by rfl) (by omega) ak ak ?_|refine xG (by rfl) (by rfl) (by (try simp (disch:=omega) only [go_sem,Int.reduceAdd,Int.reduceSub,Int.reduceMul,hx,wrap_u8,eG,hw,h2]);try rfl) ?_|refine yc (by rfl) (by rfl) (by (try simp only [go_sem,reduceIte,hx,wrap_u8,eG,hw,h2]);try rfl) ?_|refine ve (by rfl) (by rfl) ?_|refine uT (by rfl) (by rfl) ?_|refine mP bP (by rfl) af rU x9 bD ak bP (by omega) gz az (by (try simp (disch:=omega) only [go_sem,reduceIte,Nat.reduceEqDiff,Nat.reduceAdd,Nat.reduceMul,hx,wrap_u8,eG,hw,h2]);try rfl) ak (by rfl) ?_|refine ww (by rfl) (by rfl) (by omega) (by (try simp (disch:=omega) only [go_sem,Int.reduceAdd,Int.reduceSub,Int.reduceMul,hx,wrap_u8,eG,hw,h2]);try rfl) ?_|refine yD (by rfl) (by rfl) (by omega) (by (try simp (disch:=omega) only [go_sem,Int.reduceAdd,Int.reduceSub,Int.reduceMul,hx,wrap_u8,eG,hw,h2]);try rfl) ?_|refine Fj (by rfl) (by rfl) (by (try simp only [go_sem,reduceIte,hx,wrap_u8,eG,hw,h2]);try rfl) ?_|refine qX bP aG ak jI (by simp) (by rfl) (by rfl) (by rfl) ?_|refine qV (by rfl) (by rfl) (by rfl) (by omega) ak bP (by (try simp (disch:=omega) only [go_sem,reduceIte,Nat.reduceEqDiff,Nat.reduceAdd,Nat.reduceMul,hx,wrap_u8,eG,hw,h2]);try rfl) ?_|refine iY ?_|refine mf (by rfl) (by rfl) dm af ⟨rfl,rfl⟩ (by (try simp (disch:=omega) only [go_sem,reduceIte,Nat.reduceEqDiff,Nat.reduceAdd,Nat.reduceMul,hx,wrap_u8,eG,hw,h2]);try rfl) (by rfl) ?_|refine xO (by rfl) (by rfl) (by (try simp (disch:=omega) only [go_sem,Int.reduceAdd,Int.reduceSub,Int.reduceMul,hx,wrap_u8,eG,hw,h2]);try rfl) ?_|refine Fq (by rfl) (by rfl) (by (try simp (disch:=omega) only [go_sem,Int.reduceAdd,Int.reduceSub,Int.reduceMul,hx,wrap_u8,eG,hw,h2]);try rfl) ?_|refine yj (by rfl) (by rfl) (by (try simp (disch:=omega) only [go_sem,Int.reduceAdd,Int.reduceSub,Int.reduceMul,hx,wrap_u8,eG,hw,h2]);try rfl) ?_|refine xQ (by rfl) (by rfl) (by omega) (by (try simp (disch:=omega) only [go_sem,Int.reduceAdd,Int.reduceSub,Int.reduceMul,hx,wrap_u8,eG,hw,h2]);try rfl) ?_|refine yu (by rfl) (by rfl) (by omega) (by (try simp (disch:=omega) only [go_sem,Int.reduceAdd,Int.reduceSub,Int.reduceMul,hx,wrap_u8,eG,hw,h2]);try rfl) ?_|refine x8 (by rfl) (by rfl) yl (by (try simp (disch:=omega) only [ng,go_sem,reduceIte,hx,wrap_u8,eG,hw,h2]);try rfl) ?_|refine qY (by rfl) (by (try simp only [go_sem,reduceIte,hx,wrap_u8,eG,hw,h2]);try rfl) ?_|refine wZ (by rfl) (by (try simp (disch:=omega) only [go_sem,Int.reduceAdd,Int.reduceSub,Int.reduceMul,hx,wrap_u8,eG,hw,h2]);try rfl) ?_|refine qQ (by rfl) (by (try simp (disch:=omega) only [go_sem,Int.reduceAdd,Int.reduceSub,Int.reduceMul,hx,wrap_u8,eG,hw,h2]);try rfl) ?_|refine xN (by rfl) af rU (by (try simp (disch:=omega) only [go_sem,reduceIte,Nat.reduceEqDiff,Nat.reduceAdd,Nat.reduceMul,hx,wrap_u8,eG,hw,h2]);try omega) (by (try simp only [go_sem,reduceIte,Nat.reduceEqDiff,Nat.reduceAdd,Nat.reduceMul,hx,wrap_u8,eG,hw,h2]);try rfl) (by (try simp (disch:=omega) only [go_sem,reduceIte,Nat.reduceEqDiff,Nat.reduceAdd,Nat.reduceMul,hx,wrap_u8,eG,hw,h2]);try rfl) dK (by omega) bD (by (try simp (disch:=omega) only [go_sem,reduceIte,Nat.reduceEqDiff,Nat.reduceAdd,Nat.reduceMul,hx,wrap_u8,eG,hw,h2]);try rfl) az (by (try simp (disch:=omega) only [go_sem,reduceIte,Nat.reduceEqDiff,Nat.reduceAdd,Nat.reduceMul,hx,wrap_u8,eG,hw,h2]);try rfl) ak ?_|refine yz (by rfl) az af ?_|refine qW (by rfl) az (by (try simp (disch:=omega) only [go_sem,reduceIte,Nat.reduceEqDiff,Nat.reduceAdd,Nat.reduceMul,hx,wrap_u8,eG,hw,h2]);try rfl) ?_|refine xJ bP af rfl ?_|refine qP (by rfl) ?_|refine qU (by rfl) (by omega) ?_|refine qL (by rfl) (by omega) ?_|refine mX bP ?_|refine xP (eV rfl) af ⟨rfl,rfl⟩ (by (try simp (disch:=omega) only [go_sem,reduceIte,Nat.reduceEqDiff,Nat.reduceAdd,Nat.reduceMul,hx,wrap_u8,eG,hw,h2]);try rfl) (by rfl) ?_|refine yw (by rfl) af (by rfl) (by rfl) ?_|refine jY (by rfl) af af gU (by trivial) gU dm ⟨rfl,rfl⟩ (by (try simp (disch:=omega) only [go_sem,reduceIte,Nat.reduceEqDiff,Nat.reduceAdd,Nat.reduceMul,hx,wrap_u8,eG,hw,h2]);try rfl) ak iL ?_|refine mJ (eV rfl) (by (try simp (disch:=omega) only [List.length_map,go_sem,reduceIte,Nat.reduceEqDiff,Nat.reduceAdd,Nat.reduceMul,hx,wrap_u8,eG,hw,h2]);try rfl) ?_|refine mV (by rfl) (by rfl) dm (by (try simp (disch:=omega) only [List.length_map,go_sem,reduceIte,Nat.reduceEqDiff,Nat.reduceAdd,Nat.reduceMul,hx,wrap_u8,eG,hw,h2]);try rfl) ?_|refine mM (by rfl) ?_|refine mQ (eV rfl) ?_|refine lu (by rfl) (by rfl) dm ?_|refine mZ (by rfl) ?_|refine jP af rfl ?_)
  exact aV [0,1,2,5,10,11,12] (j+1) hjl (by omega) (by rw [hl2];rfl)
 ·obtain rfl:j=l.length:=by omega
  rw [ig]
  have hkl:=WM l
  have hw:=zl (ky l) (ky l).length rfl
  have hmc:xe l∈Ls.map xe <-> l∈Ls:=GG fun x hx e=>KE hin (hins x hx) e
  have hic:ix (Ls.map xe) (xe l)=ix Ls l:=Bj fun x hx e=>KE hin (hins x hx) e
  have hT:∀z,F8 (ky l)=z->HV.str z=vW (xe l):=fun z e=>by rw [<- e];exact Bh _
  refine zF ⟨?_⟩
  refine wE (by rfl) (by rfl) (by rfl) (by rw [hw];exact sF _) rfl (by rw [xq];omega) ?_
  rw [Bh,show Ob (ky l)=xe l from rfl]
  by_cases hin':l∈Ls
  ·have e1:insL Ls l=Ls:=if_pos hin'
   rw [e1,<- hic]
   have e2:=hmc.2 hin'
   have hg:=DL rM (l:=Ls.map xe) (a:=xe l)
   refine mf (by rfl) (by rfl) dm af ⟨rfl,rfl⟩ (DL rM _ _ _ e2) (by rfl) ?_
   refine zF ⟨?_⟩
   refine wE (by rfl) (by rfl) (by rfl) (by rw [hw];exact sF _) rfl (by rw [xq];omega) ?_
   rw [Bh,show Ob (ky l)=xe l from rfl]
   refine mf (by rfl) (by rfl) dm af ⟨rfl,rfl⟩ (DL rM _ _ _ e2) (by rfl) ?_
   refine zF ⟨?_⟩
   refine KX (rs:=[4,1,2]) aG Aw OM ?_
   exact ⟨_,rfl,rfl,by simp [EM,E5],rfl,rfl⟩
  ·have e1:insL Ls l=Ls++[l]:=if_neg hin'
   have e2:xe l ∉ Ls.map xe:=fun h=>hin' (hmc.1 h)
   rw [e1]
   refine mf (by rfl) (by rfl) dm af ⟨rfl,rfl⟩ (VL rM _ _ _ e2) (by rfl) ?_
   refine zF ⟨?_⟩
   refine wE (by rfl) (by rfl) (by rfl) (by rw [hw];exact sF _) rfl (by rw [xq];omega) ?_
   rw [Bh,show Ob (ky l)=xe l from rfl]
   refine zK ⟨?_⟩
   refine jY (by rfl) af af gU (by trivial) gU (by rfl) ⟨rfl,rfl⟩ (PP rM (n:=Ls.length) (by simp) e2) (show dh _ _ _=HV.optr [HV.omap ⟨.str,none⟩ ((Ls.map xe++[xe l]).map vW) (lU (Ls.map xe++[xe l]).length)] from rfl) iL ?_
   have e3:Ls.map xe++[xe l]=(Ls++[l]).map xe:=by simp
   have e4:xe l∈(Ls++[l]).map xe:=by rw [<- e3];simp
   have e5:ix ((Ls++[l]).map xe) (xe l)=ix (Ls++[l]) l:=Bj fun y hy e=>by
    rcases zl002.1 hy with hy|hy
    ·exact KE hin (hins y hy) e
    ·exact (zl009.1 hy).symm
   rw [e3,<- e5]
   have ha:=G7 Ls l rfl
   have hwl:win (iO Ls) 0 Ls.length=iO Ls:=dw _ (by rw [Ed])
   refine fP (zA @ha @hwl) ⟨?_⟩
   refine wE (by rfl) (by rfl) (by rfl) (by rw [hw];exact sF _) rfl (by rw [xq];omega) ?_
   rw [Bh,show Ob (ky l)=xe l from rfl]
   refine mf (by rfl) (by rfl) dm af ⟨rfl,rfl⟩ (DL rM _ _ _ e4) (by rfl) ?_
   refine zF ⟨?_⟩
   refine KX (rs:=[4,1,2]) aG Aw OM ?_
   exact ⟨_,rfl,rfl,by simp [EM,E5],rfl,by rw [show (Ls++[l]).length=Ls.length+1 by simp];rfl⟩
end Go.Proofs.Ytlbdmpjnmfmnfaa
