import Derived.Test.YteamkjblpglliaaClFits
import Derived.Test.YteamkjblpglliaaGrPlain
import Derived.Test.YteamkjblpglliaaClNet
import Derived.Test.YteamkjblpglliaaAbA
section
set_option linter.unusedSimpArgs false
set_option linter.unusedVariables false
namespace Go.Proofs.Yteamkjblpglliaa
open Go.RowKit Go.SL Go.HL
def fZ (l:List (List Nat)):List HV:=l.map fun r=>.osl 1 r.length (HL.ints (nl r))
theorem oI (l:List (List Nat)):(fZ l).length=l.length:=by simp [fZ]
theorem zA (l:List (List Nat)) {i:Nat} (h:i<l.length):(fZ l).getD i .dead=.osl 1 (l.getD i []).length (HL.ints (nl (l.getD i []))):=by simp [fZ,h]
theorem nM (l:List (List Nat)):stripL (fZ l)=aZ (l.map nl):=by
 induction l with
 | nil=>rfl
 | cons a l ih=>unfold fZ aZ at ih ⊢;simp only [List.map_cons,stripL,HV.strip,HL.ints_strip,ih,fH]
theorem Ji (l:List (List Nat)) (i:Nat) (x:List Nat) (v:HV) {m:Nat} (hm:m=x.length):((fZ l).set i v).set i (.osl 1 m (HL.ints (nl x)))=fZ (l.set i x):=by
 subst hm
 simp [fZ,List.set_set,List.map_set]
theorem Kv (n:Nat):(List.replicate n [HV.osl 1 0 []]).flatten=fZ (List.replicate n []):=by
 induction n with
 | zero=>rfl
 | succ n ih=>rw [List.replicate_succ,List.flatten_cons,ih];rfl
theorem zB (l:List (List Nat)) {n:Nat} (h:n=l.length):win (fZ l) 0 n=fZ l:=xh _ (by rw [oI];exact h)
theorem xY (l:List (List Nat)) (x:List Nat) {m:Nat} (hm:m=x.length):fZ l++[.osl 1 m (HL.ints (nl x))]=fZ (l++[x]):=by subst hm;simp [fZ]
attribute [go_sem] zA oI zB Kv
theorem DD (nd:List (List Nat)):iK nd 0 0=List.replicate nd.length []:=by
 apply List.ext_getElem
 ·simp [iK]
 ·intro j h1 h2;simp [iK,kV,lN]
structure R0 (nd:List (List Nat)) (bad:List Bool) (i:Nat) (rank left:List Int) (now:List Nat):Prop where
 lr:rank.length=nd.length
 ll:left.length=nd.length
 rank_:∀u,u<i->rank.getD u 0 = -1
 left_:∀u,u<i->left.getD u 0=((nd.getD u []).length:Int)
 now_:now=firstTo nd bad i
theorem R0.step {nd:List (List Nat)} {bad:List Bool} {i:Nat} {rank left:List Int} {now:List Nat} (s:R0 nd bad i rank left now) (hi:i<nd.length) :
  R0 nd bad (i+1) (rank.set i (-1)) (left.set i ((nd.getD i []).length:Int)) (now++if nd.getD i []=[]/\bad.getD i false=false then [i] else []):=by
 refine ⟨by simpa using s.lr,by simpa using s.ll,fun u hu=>?_,fun u hu=>?_,by rw [AZ,s.now_]⟩
 ·rw [qX _ _ _ _ _ (by rw [s.lr];exact hi)]
  split
  ·rfl
  ·exact s.rank_ u (by omega)
 ·rw [qX _ _ _ _ _ (by rw [s.ll];exact hi)]
  split
  ·rename_i h;subst h;rfl
  ·exact s.left_ u (by omega)
end Go.Proofs.Yteamkjblpglliaa
end
section
set_option linter.unusedSimpArgs false
set_option linter.unusedVariables false
namespace Go.Proofs.Yteamkjblpglliaa
open Go.RowKit Go.SL Go.HL
end Go.Proofs.Yteamkjblpglliaa
end
section
set_option linter.unusedSimpArgs false
set_option linter.unusedVariables false
namespace Go.Proofs.Yteamkjblpglliaa
open Go.RowKit Go.SL Go.HL
end Go.Proofs.Yteamkjblpglliaa
end
section
set_option linter.unusedSimpArgs false
set_option linter.unusedVariables false
namespace Go.Proofs.Yteamkjblpglliaa
open Go.RowKit Go.HL
theorem iZ (n:Int) (m:Nat) (hm:0<m) (hm2:m<=1099511627776) (h1 : -9223372036854775808<=n) (h2:n<=9223372036854775807):HT Try.prog 10 [.int .i64 n,.int .i64 m] (fun r=>∃y:Nat,r=.int .i64 y/\y<m):=by
 refine HT.of rfl afg (Nat.le_of_ble_eq_true rfl) ?_
 unfold c10
 simp only [aP,Nat.reduceAdd]
 by_cases h0:n<0
 ·obtain ⟨x,hx⟩:∃x:Nat,0 - (n+1)=x:=⟨(-(n+1)).toNat,by omega⟩
  have ht:(x:Int).tmod m=((x % m:Nat):Int):=(Int.ofNat_tmod x m).symm
  have hlt:=Nat.mod_lt x hm
  repeat (first|refine ah ?_|refine ag ?_|refine az ?_|refine di (by rfl) (by rfl) (by (try simp (disch:=omega) only [go_sem,Int.reduceAdd,Int.reduceSub,Int.reduceMul,hx,ht]);try rfl) ?_|refine ax ?_|refine ak ?_|refine ae ?_|refine Ac (by rfl) (by rfl) (by omega) (by (try simp (disch:=omega) only [go_sem,Int.reduceAdd,Int.reduceSub,Int.reduceMul,hx,ht]);try rfl) ?_|refine Df (by rfl) (by (try simp (disch:=omega) only [go_sem,Int.reduceAdd,Int.reduceSub,Int.reduceMul,hx,ht]);try rfl) ?_)
  refine ay ?_
  exact ⟨x % m,rfl,hlt⟩
 ·obtain ⟨x,rfl⟩:∃x:Nat,n=x:=⟨n.toNat,by omega⟩
  have ht:(x:Int).tmod m=((x % m:Nat):Int):=(Int.ofNat_tmod x m).symm
  have hlt:=Nat.mod_lt x hm
  repeat (first|refine ah ?_|refine ag ?_|refine az ?_|refine au ?_|refine ak ?_|refine ae ?_|refine aA ?_|refine Ac (by rfl) (by rfl) (by omega) (by (try simp (disch:=omega) only [go_sem,Int.reduceAdd,Int.reduceSub,Int.reduceMul,ht]);try rfl) ?_)
  refine ay ?_
  exact ⟨x % m,rfl,hlt⟩
theorem Ah (l:List Int) (i:Nat) (m:Nat) (hm:0<m) (hm2:m<=1099511627776) (hi:i<=1000000) (hl:l.length<=9223372036854775807) (hr:∀k,k<l.length -> -9223372036854775808<=l.getD k 0/\l.getD k 0<=9223372036854775807):HT Try.prog 33 [I l,.int .i64 i,.int .i64 m] (fun r=>∃y:Nat,r=.int .i64 y/\y<m):=by
 refine HT.of rfl aem (Nat.le_of_ble_eq_true rfl) ?_
 unfold c33
 simp only [I,aP,Nat.reduceAdd]
 by_cases hil:i<l.length
 ·have:=hr i hil
  repeat (first|refine ah ?_|refine aG ?_|refine aN ?_|refine bK (by rfl) aT mg ?_|refine ag ?_|refine az ?_|refine aI ?_|refine aF ?_|refine au ?_|refine ak ?_|refine ae ?_|refine aA ?_|refine dG ?_)
  refine bf aJ dI (iZ (l.getD i 0) m hm hm2 this.1 this.2) ?_
  rintro _ ⟨y,rfl,hy⟩
  refine ⟨dE,_,_,_,_,_,dw,(by decide),aQ,?_⟩
  repeat (first|refine ah ?_|refine ag ?_)
  refine ay ?_
  exact ⟨y,rfl,hy⟩
 ·repeat (first|refine ah ?_|refine aG ?_|refine ag ?_|refine az ?_|refine aI ?_|refine aF ?_|refine ax ?_|refine ak ?_|refine ae ?_|refine dG ?_)
  refine ay ?_
  exact ⟨0,rfl,hm⟩
end Go.Proofs.Yteamkjblpglliaa
end
section
set_option linter.unusedSimpArgs false
set_option linter.unusedVariables false
namespace Go.Proofs.Yteamkjblpglliaa
open Go.RowKit Go.SL Go.HL
def fB:Nat->Nat->List Bool
 | _,0=>[]
 | b,k+1=>decide (b % 2=1)::fB (b / 2) k
theorem nY:∀ (k b:Nat),(fB b k).length=k
 | 0,_=>rfl
 | k+1,b=>by simp [fB,nY k]
set_option maxHeartbeats 2000000 in
theorem NK (n b:Nat) (hn:n<=300) (hb:b<=1099511627776):HT Try.prog 59 [.int .i64 n,.int .i64 b] (fun r=>r=.osl 1 n (HL.bools (fB b n))):=by
 refine HT.of rfl ad4 (Nat.le_of_ble_eq_true rfl) ?_
 unfold c59
 simp only [aP,Nat.reduceAdd]
 repeat (first|refine ah ?_|refine ag ?_|refine ak ?_|refine ae ?_|refine aB ?_|refine eU rfl (by rfl) gU ?_)
 refine bD [0,1,5,6] (fun s:Nat×Nat×List Bool=>s.1<=n/\s.2.1<=1099511627776/\s.2.2.length=s.1/\s.2.2++fB s.2.1 (n - s.1)=fB b n)
  (fun s=>⟨[(0,.int .i64 n),(1,.int .i64 s.2.1),(5,.ref 0 [] 1 0 s.1),(6,.int .i64 s.1)],[(0,.osl 1 s.1 (HL.bools s.2.2))],1⟩) (fun s=>n - s.1) (0,b,[]) ⟨by simp,hb,rfl,by simp⟩ rfl ?_
 rintro ⟨i,c,X⟩ ⟨hi,hc,hX,hbx⟩
 simp only at hi hc hX hbx ⊢
 by_cases hin:i<n
 ·have t1:(c:Int).tmod 2=((c % 2:Nat):Int):=(Int.ofNat_tmod c 2).symm
  have t2:(c:Int).tdiv 2=((c / 2:Nat):Int):=(Int.ofNat_tdiv c 2).symm
  have hl2:=Nat.mod_lt c (show 0<2 by omega)
  have hd2:c / 2<=c:=Nat.div_le_self _ _
  have hnx:(X++[decide (c % 2=1)])++fB (c / 2) (n - (i+1))=fB b n:=by
   rw [<- hbx,show n - i=(n - (i+1))+1 by omega]
   simp [fB]
  have hsn:∀z:Bool,HL.bools X++[HV.bool z]=HL.bools (X++[z]):=fun z=>by simp [HL.bools]
  have hXl:(HL.bools X).length=i:=by rw [HL.bools_len,hX]
  by_cases h1:c % 2=1
  ·rw [decide_eq_true h1] at hnx
   rw [h1] at t1
   repeat (first|refine ah ?_|refine ag ?_|refine az ?_|refine aY ?_|refine di (by rfl) (by rfl) (by (try simp (disch:=omega) only [go_sem,Int.reduceAdd,Int.reduceSub,Int.reduceMul,t1,t2,hsn]);try rfl) ?_|refine ax ?_|refine ak ?_|refine ae ?_|refine aB ?_|refine dh ?_|refine aA ?_|refine wF (by rfl) (by rfl) (by omega) (by (try simp (disch:=omega) only [go_sem,Int.reduceAdd,Int.reduceSub,Int.reduceMul,t1,t2,hsn]);try rfl) ?_|refine Ac (by rfl) (by rfl) (by omega) (by (try simp (disch:=omega) only [go_sem,Int.reduceAdd,Int.reduceSub,Int.reduceMul,t1,t2,hsn]);try rfl) ?_|refine dF ?_|refine jq gU (by rfl) fP AY (by (try simp (disch:=omega) only [go_sem,reduceIte,Nat.reduceEqDiff,Nat.reduceAdd,Nat.reduceMul,t1,t2,hsn]);try omega) dm (by (try simp (disch:=omega) only [go_sem,reduceIte,Nat.reduceEqDiff,Nat.reduceAdd,Nat.reduceMul,t1,t2,hsn]);try rfl) gU (by omega) jT aT (by (try simp (disch:=omega) only [go_sem,reduceIte,Nat.reduceEqDiff,Nat.reduceAdd,Nat.reduceMul,t1,t2,hsn]);try rfl) bW ?_)
   exact bJ [0,1,5,6] (i+1,c / 2,X++[true]) ⟨hin,by simp only;omega,by simp [hX],hnx⟩ dV rfl
  ·have h0:c % 2=0:=by omega
   rw [decide_eq_false h1] at hnx
   rw [h0] at t1
   repeat (first|refine ah ?_|refine ag ?_|refine az ?_|refine aY ?_|refine di (by rfl) (by rfl) (by (try simp (disch:=omega) only [go_sem,Int.reduceAdd,Int.reduceSub,Int.reduceMul,t1,t2,hsn]);try rfl) ?_|refine ax ?_|refine ak ?_|refine ae ?_|refine aB ?_|refine dh ?_|refine aA ?_|refine wF (by rfl) (by rfl) (by omega) (by (try simp (disch:=omega) only [go_sem,Int.reduceAdd,Int.reduceSub,Int.reduceMul,t1,t2,hsn]);try rfl) ?_|refine Ac (by rfl) (by rfl) (by omega) (by (try simp (disch:=omega) only [go_sem,Int.reduceAdd,Int.reduceSub,Int.reduceMul,t1,t2,hsn]);try rfl) ?_|refine dF ?_|refine jq gU (by rfl) fP AY (by (try simp (disch:=omega) only [go_sem,reduceIte,Nat.reduceEqDiff,Nat.reduceAdd,Nat.reduceMul,t1,t2,hsn]);try omega) dm (by (try simp (disch:=omega) only [go_sem,reduceIte,Nat.reduceEqDiff,Nat.reduceAdd,Nat.reduceMul,t1,t2,hsn]);try rfl) gU (by omega) jT aT (by (try simp (disch:=omega) only [go_sem,reduceIte,Nat.reduceEqDiff,Nat.reduceAdd,Nat.reduceMul,t1,t2,hsn]);try rfl) bW ?_)
   exact bJ [0,1,5,6] (i+1,c / 2,X++[false]) ⟨hin,by simp only;omega,by simp [hX],hnx⟩ dV rfl
 ·obtain rfl:i=n:=by omega
  rw [Nat.sub_self] at hbx
  simp only [fB,List.append_nil] at hbx
  repeat (first|refine ah ?_|refine ag ?_|refine az ?_|refine aO ?_|refine au ?_|refine ak ?_|refine ae ?_)
  refine ay ?_
  rw [hbx];rfl
end Go.Proofs.Yteamkjblpglliaa
end
section
set_option linter.unusedSimpArgs false
set_option linter.unusedVariables false
namespace Go.Proofs.Yteamkjblpglliaa
open Go.RowKit Go.SL
theorem rG:∀ (X:List Bool),∃b,b<2 ^ X.length/\fB b X.length=X
 | []=>⟨0,by simp,rfl⟩
 | x::X=>by
  obtain ⟨b,hb,he⟩:=rG X
  refine ⟨2*b+if x then 1 else 0,?_,?_⟩
  ·rw [List.length_cons,Nat.pow_succ]
   split<;>omega
  ·rw [List.length_cons]
   unfold fB
   cases x with
   | true=>simp only [if_true];rw [show (2*b+1) % 2=1 by omega,show (2*b+1) / 2=b by omega,he];simp
   | false=>simp only [Bool.false_eq_true,if_false,Nat.add_zero];rw [show (2*b) % 2=0 by omega,show (2*b) / 2=b by omega,he];simp
section
variable {w:List Int} {nd:List (List Nat)} {B:List Bool} {M:Int}
def Cand (nd:List (List Nat)) (k:Nat) (X:List Bool):Prop:=X=List.replicate nd.length false\/∃j,j<k/\X=fB j nd.length/\dH nd X
theorem Cand.len {k:Nat} {X:List Bool} (h:Cand nd k X):X.length=nd.length:=by
 rcases h with rfl|⟨j,_,rfl,_⟩
 ·simp
 ·exact nY _ _
theorem qU (n:Nat):dH nd (List.replicate n false):=fun u hu=>by
 rw [List.getD_eq_getElem?_getD,List.getElem?_replicate] at hu
 split at hu<;>simp at hu
theorem Cand.closed {k:Nat} {X:List Bool} (h:Cand nd k X):dH nd X:=by
 rcases h with rfl|⟨j,_,rfl,h⟩
 ·exact qU _
 ·exact h
theorem uZ (w:List Int) (m:Nat):∀n,wS w (List.replicate m false) n=0
 | 0=>rfl
 | n+1=>by
  unfold wS
  rw [uZ w m n,List.getD_eq_getElem?_getD,List.getElem?_replicate]
  split<;>simp
structure Best (w:List Int) (nd:List (List Nat)) (k:Nat) (B:List Bool) (M:Int):Prop where
 len:B.length=nd.length
 most:∀X,Cand nd k X->wS w X nd.length<=M
 some:∃X,Cand nd k X/\wS w X nd.length=M
 all:∀u:Nat,B.getD u false=true <-> ∀X,Cand nd k X->wS w X nd.length=M->X.getD u false=true
theorem Best.zero:Best w nd 0 (List.replicate nd.length false) 0:=by
 have hc:∀X,Cand nd 0 X <-> X=List.replicate nd.length false:=fun X=>⟨fun h=>by
  rcases h with h|⟨j,h,_⟩
  ·exact h
  ·omega,.inl⟩
 refine ⟨by simp,fun X h=>?_,⟨_,.inl rfl,uZ _ _ _⟩,fun u=>⟨fun h X hX _=>by rw [(hc X).1 hX];exact h,fun h=>h _ (.inl rfl) (uZ _ _ _)⟩⟩
 rw [(hc X).1 h,uZ]
 exact Int.le_refl _
theorem Cand.succ {k:Nat} {X:List Bool}:Cand nd (k+1) X <-> Cand nd k X\/X=fB k nd.length/\dH nd X:=by
 constructor
 ·rintro (h|⟨j,h1,h2,h3⟩)
  ·exact .inl (.inl h)
  ·by_cases e:j=k
   ·subst e;exact .inr ⟨h2,h3⟩
   ·exact .inl (.inr ⟨j,by omega,h2,h3⟩)
 ·rintro ((h|⟨j,h1,h2,h3⟩)|⟨h1,h2⟩)
  ·exact .inl h
  ·exact .inr ⟨j,by omega,h2,h3⟩
  ·exact .inr ⟨k,by omega,h1,h2⟩
theorem Best.open {k:Nat} (h:Best w nd k B M) (hn:¬ dH nd (fB k nd.length)):Best w nd (k+1) B M:=by
 have hc:∀X,Cand nd (k+1) X <-> Cand nd k X:=fun X=>Cand.succ.trans ⟨fun h=>h.elim id fun ⟨h1,h2⟩=>absurd (h1▸h2) hn,.inl⟩
 obtain ⟨X,h1,h2⟩:=h.some
 exact ⟨h.len,fun X hX=>h.most X ((hc X).1 hX),⟨X,(hc X).2 h1,h2⟩,fun u=>(h.all u).trans ⟨fun h X hX=>h X ((hc X).1 hX),fun h X hX=>h X ((hc X).2 hX)⟩⟩
theorem Best.less {k:Nat} (h:Best w nd k B M) (hl:wS w (fB k nd.length) nd.length<M):Best w nd (k+1) B M:=by
 obtain ⟨X,h1,h2⟩:=h.some
 refine ⟨h.len,fun X hX=>?_,⟨X,Cand.succ.2 (.inl h1),h2⟩,fun u=>(h.all u).trans ⟨fun h X hX e=>?_,fun h X hX=>h X (Cand.succ.2 (.inl hX))⟩⟩
 ·rcases Cand.succ.1 hX with hX|⟨rfl,_⟩
  ·exact h.most X hX
  ·omega
 ·rcases Cand.succ.1 hX with hX|⟨rfl,_⟩
  ·exact h X hX e
  ·omega
theorem Best.more {k:Nat} (h:Best w nd k B M) (hc:dH nd (fB k nd.length)) (hl:M<wS w (fB k nd.length) nd.length):Best w nd (k+1) (fB k nd.length) (wS w (fB k nd.length) nd.length):=by
 have hk:Cand nd (k+1) (fB k nd.length):=Cand.succ.2 (.inr ⟨rfl,hc⟩)
 refine ⟨nY _ _,fun X hX=>?_,⟨_,hk,rfl⟩,fun u=>⟨fun hu X hX e=>?_,fun h=>h _ hk rfl⟩⟩
 ·rcases Cand.succ.1 hX with hX|⟨rfl,_⟩
  ·have:=h.most X hX;omega
  ·exact Int.le_refl _
 ·rcases Cand.succ.1 hX with hX|⟨rfl,_⟩
  ·have:=h.most X hX;omega
  ·exact hu
theorem Best.same {k:Nat} {D:List Bool} (h:Best w nd k B M) (hc:dH nd (fB k nd.length)) (he:wS w (fB k nd.length) nd.length=M) (hD:D.length=nd.length) (hg:∀u:Nat,D.getD u false=(B.getD u false&&(fB k nd.length).getD u false)):Best w nd (k+1) D M:=by
 obtain ⟨X,h1,h2⟩:=h.some
 have hk:Cand nd (k+1) (fB k nd.length):=Cand.succ.2 (.inr ⟨rfl,hc⟩)
 refine ⟨hD,fun X hX=>?_,⟨X,Cand.succ.2 (.inl h1),h2⟩,fun u=>?_⟩
 ·rcases Cand.succ.1 hX with hX|⟨rfl,_⟩
  ·exact h.most X hX
  ·omega
 ·rw [hg,Bool.and_eq_true,h.all u]
  constructor
  ·rintro ⟨h1,h2⟩ X hX e
   rcases Cand.succ.1 hX with hX|⟨rfl,_⟩
   ·exact h1 X hX e
   ·exact h2
  ·intro h1
   exact ⟨fun X hX=>h1 X (Cand.succ.2 (.inl hX)),h1 _ hk he⟩
theorem Best.done {S:List Bool} (h:Best w nd (2 ^ nd.length) B M) (hS:mO w nd S):B=S/\M=wS w S nd.length:=by
 have hall:∀X:List Bool,X.length=nd.length->dH nd X->Cand nd (2 ^ nd.length) X:=fun X hl hc=>by
  obtain ⟨b,hb,he⟩:=rG X
  rw [hl] at hb he
  exact .inr ⟨b,hb,he.symm,hc⟩
 have hM:M=wS w S nd.length:=by
  obtain ⟨X,h1,h2⟩:=h.some
  have a:=hS.most X h1.len h1.closed
  have b:=h.most S (hall S hS.len hS.closed)
  omega
 refine ⟨?_,hM⟩
 have hu:∀u:Nat,B.getD u false=true <-> S.getD u false=true:=fun u=>(h.all u).trans ⟨fun h=>h S (hall S hS.len hS.closed) hM.symm,fun hu X hX e=>hS.least X hX.len hX.closed (by rw [e,hM]) u hu⟩
 apply List.ext_getElem
 ·rw [h.len,hS.len]
 ·intro i h1 h2
  have:=hu i
  rw [List.getD_eq_getElem?_getD,List.getElem?_eq_getElem h1,List.getD_eq_getElem?_getD,List.getElem?_eq_getElem h2,Option.getD_some,Option.getD_some] at this
  exact Bool.eq_iff_iff.2 this
end
end Go.Proofs.Yteamkjblpglliaa
end
section
set_option linter.unusedSimpArgs false
set_option linter.unusedVariables false
namespace Go.Proofs.Yteamkjblpglliaa
open Go.RowKit Go.SL Go.HL
def IsB (p:Prop) (r:HV):Prop:=∃b:Bool,r=.bool b/\(b=true <-> p)
theorem Me (n s t:Int) (es:List Edge) (hl:es.length<=9223372036854775807):HT Try.prog 40 [.int .i64 n,Es es,.int .i64 s,.int .i64 t] (IsB (VNet n s t es)):=by
 refine ⟨callable aeY,fun w rargs F hF ho=>?_⟩
 obtain ⟨_,_,rfl,o1,q2⟩:=gX ho
 obtain ⟨_,_,rfl,o2,q3⟩:=gX q2
 obtain ⟨_,_,rfl,o3,q4⟩:=gX q3
 obtain ⟨_,_,rfl,o4,q5⟩:=gX q4
 obtain rfl:=xg q5
 obtain ⟨a,cap,rfl,hr⟩:=uV hF o2
 obtain rfl:=of_int o1
 obtain rfl:=of_int o3
 obtain rfl:=of_int o4
 refine (rX n a _ cap es s t w hr rfl hl).mono ?_
 rintro e w' ⟨b,rfl,hb,hB⟩
 exact wI ⟨b,rfl,hb⟩ hB fun F h=>.bool .nil
set_option maxHeartbeats 4000000 in
theorem zH (n s t:Int) (es:List Edge) (hl:es.length<=9223372036854775807):HT Try.prog 76 [.int .i64 n,Es es,.int .i64 s,.int .i64 t] (IsB (VNet n s t es)):=by
 refine HT.of rfl afd (Nat.le_of_ble_eq_true rfl) ?_
 unfold c76
 simp only [Es,aP,Nat.reduceAdd]
 have key:(2<=n/\n<=258/\0<=s/\s<n/\0<=t/\t<n/\¬ s=t/\es.length<=65536)\/(n<2\/(2<=n/\n>258)\/(2<=n/\n<=258/\s<0)\/(2<=n/\n<=258/\0<=s/\n<=s)\/(2<=n/\n<=258/\0<=s/\s<n/\t<0) \/
  (2<=n/\n<=258/\0<=s/\s<n/\0<=t/\n<=t)\/(2<=n/\n<=258/\0<=s/\s<n/\0<=t/\t<n/\s=t)\/(2<=n/\n<=258/\0<=s/\s<n/\0<=t/\t<n/\¬ s=t/\es.length>65536)):=by omega
 rcases key with h|h
 ·repeat (first|refine ah ?_|refine aG ?_|refine ag ?_|refine az ?_|refine aY ?_|refine aI ?_|refine aF ?_|refine au ?_|refine ak ?_|refine ae ?_|refine aB ?_|refine aA ?_|refine bn ?_|refine dG ?_)
  refine bD [0,1,9] (fun k:Nat=>k<=es.length/\∀j,j<k->uO n (es.getD j default)) (fun k=>⟨[(0,.int .i64 n),(1,.sl es.length (edges es)),(9,.int .i64 k)],[],0⟩) (fun k=>es.length - k) 0 ⟨by omega,fun j hj=>by omega⟩ rfl ?_
  rintro k ⟨hk,hall⟩
  by_cases hkl:k<es.length
  ·have hmem:es.getD k default∈es:=by
    have:es.getD k default=es[k]:=by simp [hkl]
    rw [this];exact List.getElem_mem hkl
   have key2:(0<=(es.getD k default).f/\(es.getD k default).f<n/\0<=(es.getD k default).t/\(es.getD k default).t<n/\¬ (es.getD k default).f=(es.getD k default).t/\0<=(es.getD k default).c/\(es.getD k default).c<=1099511627776) \/
    ((es.getD k default).f<0\/(0<=(es.getD k default).f/\n<=(es.getD k default).f)\/(0<=(es.getD k default).f/\(es.getD k default).f<n/\(es.getD k default).t<0)\/(0<=(es.getD k default).f/\(es.getD k default).f<n/\0<=(es.getD k default).t/\n<=(es.getD k default).t) \/
     (0<=(es.getD k default).f/\(es.getD k default).f<n/\0<=(es.getD k default).t/\(es.getD k default).t<n/\(es.getD k default).f=(es.getD k default).t) \/
     (0<=(es.getD k default).f/\(es.getD k default).f<n/\0<=(es.getD k default).t/\(es.getD k default).t<n/\¬ (es.getD k default).f=(es.getD k default).t/\(es.getD k default).c<0) \/
     (0<=(es.getD k default).f/\(es.getD k default).f<n/\0<=(es.getD k default).t/\(es.getD k default).t<n/\¬ (es.getD k default).f=(es.getD k default).t/\0<=(es.getD k default).c/\1099511627776<(es.getD k default).c)):=by omega
   rcases key2 with h2|h2
   ·repeat (first|refine ah ?_|refine aG ?_|refine aN ?_|refine aH ?_|refine ag ?_|refine az ?_|refine aY ?_|refine aI ?_|refine bz ?_|refine aF ?_|refine ax ?_|refine au ?_|refine ak ?_|refine ae ?_|refine aB ?_|refine dh ?_|refine aA ?_|refine bn ?_|refine dG ?_|refine aC ?_|refine GV (by rfl) aT MZ ?_|refine iI ?_|refine iD gU ?_)
    exact bJ [0,1,9] (k+1) ⟨hkl,fun j hj=>by
     rcases Nat.lt_or_ge j k with h3|h3
     ·exact hall j h3
     ·obtain rfl:j=k:=by omega
      exact h2⟩ (by omega) rfl
   ·have hbad:¬ VNet n s t es:=fun hv=>by
     obtain ⟨b1,b2,b3,b4,b5,b6,b7⟩:=hv.all _ hmem
     omega
    rcases h2 with h2|h2|h2|h2|h2|h2|h2
    all_goals
     repeat (first|refine ah ?_|refine aG ?_|refine bZ ?_|refine aN ?_|refine aH ?_|refine ag ?_|refine az ?_|refine aY ?_|refine aK ?_|refine aI ?_|refine aF ?_|refine ax ?_|refine ak ?_|refine ae ?_|refine aB ?_|refine aA ?_|refine bn ?_|refine dG ?_|refine aC ?_|refine GV (by rfl) aT MZ ?_|refine iI ?_|refine iD gU ?_)
     refine ay ?_
     exact ⟨false,rfl,by simp [hbad]⟩
  ·obtain rfl:k=es.length:=by omega
   have hgood:VNet n s t es:=⟨h.1,h.2.1,h.2.2.1,h.2.2.2.1,h.2.2.2.2.1,h.2.2.2.2.2.1,h.2.2.2.2.2.2.1,h.2.2.2.2.2.2.2,fun e he=>by
    obtain ⟨j,hj,rfl⟩:=List.getElem_of_mem he
    have:=hall j hj
    simpa [hj] using this⟩
   repeat (first|refine ah ?_|refine ag ?_|refine az ?_|refine aF ?_|refine aO ?_|refine au ?_|refine ak ?_|refine ae ?_)
   refine ay ?_
   exact ⟨true,rfl,by simp [hgood]⟩
 ·have hbad:¬ VNet n s t es:=fun hv=>by have:=hv.bounds;omega
  rcases h with h|h|h|h|h|h|h|h
  all_goals
   repeat (first|refine ah ?_|refine aG ?_|refine bZ ?_|refine ag ?_|refine az ?_|refine aY ?_|refine aK ?_|refine aI ?_|refine aF ?_|refine ax ?_|refine ak ?_|refine ae ?_|refine bn ?_|refine dG ?_)
   refine ay ?_
   exact ⟨false,rfl,by simp [hbad]⟩
end Go.Proofs.Yteamkjblpglliaa
end
section
set_option linter.unusedSimpArgs false
set_option linter.unusedVariables false
namespace Go.Proofs.Yteamkjblpglliaa
open Go.RowKit Go.SL Go.HL
theorem Bv (n s t:Int) (es:List Edge) (fl:List Int) (hl:es.length<=9223372036854775807) (hbad:¬ VNet n s t es\/fl.length≠es.length):HT Try.prog 16 [.int .i64 n,Es es,.int .i64 s,.int .i64 t,I fl] (fun r=>r=.tup [.int .i64 0,.int .i64 1]):=by
 refine HT.of rfl YL (Nat.le_of_ble_eq_true rfl) ?_
 unfold c16
 simp only [Es,I,aP,Nat.reduceAdd]
 repeat (first|refine ah ?_|refine ag ?_|refine ak ?_|refine ae ?_)
 refine bf aJ dI (Me n s t es hl) ?_
 rintro _ ⟨b,rfl,hb⟩
 cases b with
 | false =>
  refine ⟨dE,_,_,_,_,_,dw,(by decide),aQ,?_⟩
  repeat (first|refine ah ?_|refine bZ ?_|refine ag ?_|refine aK ?_|refine ax ?_|refine ak ?_|refine ae ?_|refine gZ (by rfl) ?_)
  refine ay ?_
  rfl
 | true =>
  have hv:=hb.1 rfl
  have hne:¬ fl.length=es.length:=by rcases hbad with h|h;exact absurd hv h;exact h
  refine ⟨dE,_,_,_,_,_,dw,(by decide),aQ,?_⟩
  repeat (first|refine ah ?_|refine aG ?_|refine ag ?_|refine aW ?_|refine aI ?_|refine aF ?_|refine ax ?_|refine ak ?_|refine ae ?_|refine dR (by rfl) ?_)
  refine ay ?_
  rfl
theorem yZ (n s t:Int) (es:List Edge) (fl:List Int) (hl:es.length<=9223372036854775807) (hbad:¬ VNet n s t es\/fl.length≠es.length):HT Try.prog 66 [.int .i64 n,Es es,.int .i64 s,.int .i64 t,I fl] (fun r=>r=.tup [.int .i64 0,.int .i64 1]):=by
 refine HT.of rfl WM (Nat.le_of_ble_eq_true rfl) ?_
 unfold c66
 simp only [Es,I,aP,Nat.reduceAdd]
 repeat (first|refine ah ?_|refine ag ?_|refine ak ?_|refine ae ?_)
 refine bf aJ dI (zH n s t es hl) ?_
 rintro _ ⟨b,rfl,hb⟩
 cases b with
 | false =>
  refine ⟨dE,_,_,_,_,_,dw,(by decide),aQ,?_⟩
  repeat (first|refine ah ?_|refine bZ ?_|refine ag ?_|refine aK ?_|refine ax ?_|refine ak ?_|refine ae ?_|refine gZ (by rfl) ?_)
  refine ay ?_
  rfl
 | true =>
  have hv:=hb.1 rfl
  have hne:¬ fl.length=es.length:=by rcases hbad with h|h;exact absurd hv h;exact h
  refine ⟨dE,_,_,_,_,_,dw,(by decide),aQ,?_⟩
  repeat (first|refine ah ?_|refine aG ?_|refine ag ?_|refine aW ?_|refine aI ?_|refine aF ?_|refine ax ?_|refine ak ?_|refine ae ?_|refine dR (by rfl) ?_)
  refine ay ?_
  rfl
set_option maxHeartbeats 4000000 in
theorem JO (n s t:Nat) (es:List Edge) (fl:List Int) (hv:VNet n s t es) (hl:fl.length=es.length):HT Try.prog 66 [.int .i64 n,Es es,.int .i64 s,.int .i64 t,I fl] (fun r=>∃x y,r=.tup [.int .i64 x,.int .i64 y]/\CheckR n s t es fl x y):=by
 refine HT.of rfl WM (Nat.le_of_ble_eq_true rfl) ?_
 unfold c66
 simp only [Es,I,aP,Nat.reduceAdd,hl]
 have hle:=hv.len
 have hn258:=hv.n258
 repeat (first|refine ah ?_|refine ag ?_|refine ak ?_|refine ae ?_)
 refine bf aJ dI (zH n s t es (by omega)) ?_
 rintro _ ⟨b,rfl,hb⟩
 obtain rfl:b=true:=hb.2 hv
 refine ⟨dE,_,_,_,_,_,dw,(by decide),aQ,?_⟩
 repeat (first|refine ah ?_|refine aG ?_|refine ag ?_|refine aW ?_|refine aI ?_|refine aF ?_|refine au ?_|refine ak ?_|refine ae ?_|refine aB ?_|refine aA ?_|refine dR (by rfl) ?_|refine ku gU (by rfl) (by omega) bW bW ?_)
 refine bD [0,1,2,3,4,12,13] (fun k:Nat=>k<=es.length/\sN es fl k) (fun k=>⟨[(0,.int .i64 n),(1,.sl es.length (edges es)),(2,.int .i64 s),(3,.int .i64 t),(4,.sl es.length (HL.ints fl)),(12,.ref 0 [] 1 0 n),(13,.int .i64 k)],[(0,.osl 1 n (HL.ints (jh n es fl k)))],1⟩) (fun k=>es.length - k) 0 ⟨by omega,fun j hj=>by omega⟩ rfl ?_
 rintro k ⟨hk,hok⟩
 have hnl:=uJ n es fl k
 by_cases hkl:k<es.length
 ·have hg:es.getD k default=es[k]:=by simp [hkl]
  obtain ⟨v1,v2,v3,v4,v5,v6,v7⟩:=hv.all _ (List.getElem_mem hkl)
  rw [<- hg] at v1 v2 v3 v4 v5 v6 v7
  by_cases h0:fl.getD k 0<0
  ·have hno:¬ sN es fl es.length:=fun h=>by have:=h k hkl;omega
   repeat (first|refine ah ?_|refine ag ?_|refine az ?_|refine aF ?_|refine ax ?_|refine ak ?_|refine ae ?_|refine aB ?_|refine aA ?_)
   refine bQ bi bi (fun _ _ _=>False) ?_
   repeat (first|refine ah ?_|refine bZ ?_|refine aN ?_|refine bK (by rfl) aT mg ?_|refine ag ?_|refine az ?_|refine aK ?_|refine ax ?_|refine ak ?_|refine ae ?_)
   refine ay ?_
   exact ⟨0,5,rfl,.inl ⟨hno,rfl,rfl⟩⟩
  ·by_cases h1:(es.getD k default).c<fl.getD k 0
   ·have hno:¬ sN es fl es.length:=fun h=>by have:=h k hkl;omega
    repeat (first|refine ah ?_|refine ag ?_|refine az ?_|refine aF ?_|refine ax ?_|refine ak ?_|refine ae ?_|refine aB ?_|refine aA ?_)
    refine bQ bi bi (fun _ _ _=>False) ?_
    repeat (first|refine ah ?_|refine aG ?_|refine aN ?_|refine bK (by rfl) aT mg ?_|refine ag ?_|refine az ?_|refine aI ?_|refine ax ?_|refine ak ?_|refine ae ?_|refine bn ?_|refine nK (by rfl) (by rfl) ?_)
    refine ay ?_
    exact ⟨0,5,rfl,.inl ⟨hno,rfl,rfl⟩⟩
   ·have hok2:sN es fl (k+1):=fun j hj=>by
     rcases Nat.lt_or_ge j k with h2|h2
     ·exact hok j h2
     ·obtain rfl:j=k:=by omega
      omega
    have hbd:∀i:Nat,i<n -> -72057594037927936<=(jh n es fl k).getD i 0/\(jh n es fl k).getD i 0<=72057594037927936:=fun i hi=>by
     have:=AU n es fl k (fun e he=>(hv.all e he).2.2.2.2.2.2) hk hok ((jh n es fl k).getD i 0) (by
      rw [List.getD_eq_getElem?_getD,List.getElem?_eq_getElem (by omega)];exact List.getElem_mem _)
     omega
    have hbf:=hbd (es.getD k default).f.toNat (by omega)
    have hbt:=hbd (es.getD k default).t.toNat (by omega)
    have hset:((jh n es fl k).set (es.getD k default).f.toNat ((jh n es fl k).getD (es.getD k default).f.toNat 0+fl.getD k 0)).getD (es.getD k default).t.toNat 0=(jh n es fl k).getD (es.getD k default).t.toNat 0:=by
     rw [rO _ _ _ _ (by omega),if_neg (by omega)]
    rw [<- hset] at hbt
    have hl2:((jh n es fl k).set (es.getD k default).f.toNat ((jh n es fl k).getD (es.getD k default).f.toNat 0+fl.getD k 0)).length=n:=by rw [List.length_set];exact hnl
    repeat (first|refine ah ?_|refine ag ?_|refine az ?_|refine aF ?_|refine ax ?_|refine ak ?_|refine ae ?_|refine aB ?_|refine aA ?_)
    refine bQ bi bi (fun _ _ _=>False) ?_
    repeat (first|refine ah ?_|refine aG ?_|refine aN ?_|refine bK (by rfl) aT mg ?_|refine ag ?_|refine az ?_|refine aI ?_|refine au ?_|refine ak ?_|refine aA ?_|refine bn ?_|refine nK (by rfl) (by rfl) ?_)
    refine bQ bi bi (fun _ _ _=>False) ?_
    repeat (first|refine ah ?_|refine aN ?_|refine bY ?_|refine bK (by rfl) aT mg ?_|refine aH ?_|refine ag ?_|refine bz ?_|refine nK (by rfl) (by rfl) ?_|refine iI ?_)
    refine bQ bi bi (fun _ _ _=>False) ?_
    repeat (first|refine ah ?_|refine aN ?_|refine bY ?_|refine bK (by rfl) aT mg ?_|refine aH ?_|refine ag ?_|refine bz ?_|refine ae ?_|refine dh ?_|refine ik (by rfl) (by rfl) nV ?_|refine nK (by rfl) (by rfl) ?_|refine iI ?_)
    exact bJ [0,1,2,3,4,12,13] (k+1) ⟨hkl,hok2⟩ (by omega) rfl
 ·obtain rfl:k=es.length:=by omega
  repeat (first|refine ah ?_|refine ag ?_|refine az ?_|refine aF ?_|refine aO ?_|refine au ?_|refine ak ?_|refine ae ?_|refine aB ?_)
  refine bD [0,2,3,12,14] (fun k:Nat=>k<=n/\¬ wP s t (jh n es fl es.length) k) (fun k=>⟨[(0,.int .i64 n),(2,.int .i64 s),(3,.int .i64 t),(12,.ref 0 [] 1 0 n),(14,.int .i64 k)],[(0,.osl 1 n (HL.ints (jh n es fl es.length)))],1⟩) (fun k=>n - k) 0 ⟨by omega,fun ⟨v,h,_⟩=>by omega⟩ rfl ?_
  rintro k ⟨hk2,hodd⟩
  have hsn:=hv.sn
  by_cases hkn:k<n
  ·have up:((k:Int)=s\/(k:Int)=t\/(jh n es fl es.length).getD k 0=0)->¬ wP s t (jh n es fl es.length) (k+1):=by
    rintro h ⟨v,h1,h2,h3,h4⟩
    rcases Nat.lt_or_ge v k with h5|h5
    ·exact hodd ⟨v,h5,h2,h3,h4⟩
    ·obtain rfl:v=k:=by omega
     rcases h with h|h|h
     ·exact h2 h
     ·exact h3 h
     ·exact h4 h
   by_cases e1:(k:Int)=s
   ·have hup:=up (.inl e1)
    repeat (first|refine ah ?_|refine bZ ?_|refine ag ?_|refine az ?_|refine aW ?_|refine aI ?_|refine bz ?_|refine ax ?_|refine au ?_|refine ak ?_|refine ae ?_|refine aB ?_|refine dh ?_|refine aA ?_)
    exact bJ [0,2,3,12,14] (k+1) ⟨hkn,hup⟩ (by omega) rfl
   ·by_cases e2:(k:Int)=t
    ·have hup:=up (.inr (.inl e2))
     repeat (first|refine ah ?_|refine aG ?_|refine bZ ?_|refine ag ?_|refine az ?_|refine aW ?_|refine aK ?_|refine aI ?_|refine bz ?_|refine ax ?_|refine au ?_|refine ak ?_|refine ae ?_|refine aB ?_|refine dh ?_|refine aA ?_)
     exact bJ [0,2,3,12,14] (k+1) ⟨hkn,hup⟩ (by omega) rfl
    ·by_cases e3:(jh n es fl es.length).getD k 0=0
     ·have hup:=up (.inr (.inr e3))
      repeat (first|refine ah ?_|refine aG ?_|refine bY ?_|refine aH ?_|refine ag ?_|refine az ?_|refine aW ?_|refine aK ?_|refine bz ?_|refine ax ?_|refine au ?_|refine ak ?_|refine ae ?_|refine aB ?_|refine dh ?_|refine aA ?_)
      exact bJ [0,2,3,12,14] (k+1) ⟨hkn,hup⟩ (by omega) rfl
     ·repeat (first|refine ah ?_|refine aG ?_|refine bY ?_|refine aH ?_|refine ag ?_|refine az ?_|refine aW ?_|refine aK ?_|refine ax ?_|refine ak ?_|refine ae ?_|refine aB ?_|refine aA ?_)
      refine ay ?_
      exact ⟨0,24,rfl,.inr (.inl ⟨hok,⟨k,hkn,e1,e2,e3⟩,rfl,rfl⟩)⟩
  ·obtain rfl:n=k:=by omega
   repeat (first|refine ah ?_|refine bY ?_|refine aH ?_|refine ag ?_|refine az ?_|refine aO ?_|refine au ?_|refine ak ?_|refine ae ?_)
   refine ay ?_
   exact ⟨_,0,rfl,.inr (.inr ⟨hok,hodd,rfl,rfl⟩)⟩
end Go.Proofs.Yteamkjblpglliaa
end
