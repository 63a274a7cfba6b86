import Derived.Test.YteamkjblpglliaaClFits
import Derived.Test.YteamkjblpglliaaGrPlain
import Derived.Test.YteamkjblpglliaaClNet
import Derived.Test.YteamkjblpglliaaAbA
section
set_option linter.unusedSimpArgs false
set_option linter.unusedVariables false
namespace Go.Proofs.Yteamkjblpglliaa
open Go.RowKit Go.SL Go.HL
def gm (l:List (List Nat)):List HV:=l.map fun r=>.osl 1 r.length (HL.ints (nl r))
theorem nY (l:List (List Nat)):(gm l).length=l.length:=by simp [gm]
theorem zy (l:List (List Nat)) {i:Nat} (h:i < l.length):(gm l).getD i .dead=.osl 1 (l.getD i []).length (HL.ints (nl (l.getD i []))):=by simp [gm,h]
theorem ng (l:List (List Nat)):stripL (gm l)=bf (l.map nl):=by
 induction l with
 | nil=>rfl
 | cons a l ih=>unfold gm bf at ih ⊢;simp only [List.map_cons,stripL,HV.strip,HL.ints_strip,ih,fE]
theorem IJ (l:List (List Nat)) (i:Nat) (x:List Nat) (v:HV) {m:Nat} (hm:m=x.length):((gm l).set i v).set i (.osl 1 m (HL.ints (nl x)))=gm (l.set i x):=by
 subst hm
 simp [gm,List.set_set,List.map_set]
theorem KN (n:Nat):(List.replicate n [HV.osl 1 0 []]).flatten=gm (List.replicate n []):=by
 induction n with
 | zero=>rfl
 | succ n ih=>rw [List.replicate_succ,List.flatten_cons,ih];rfl
theorem zo (l:List (List Nat)) {n:Nat} (h:n=l.length):win (gm l) 0 n=gm l:=xn _ (by rw [nY];exact h)
theorem yO (l:List (List Nat)) (x:List Nat) {m:Nat} (hm:m=x.length):gm l ++ [.osl 1 m (HL.ints (nl x))]=gm (l ++ [x]):=by subst hm;simp [gm]
attribute [go_sem] zy nY zo KN
theorem Ep (nd:List (List Nat)):iK nd 0 0=List.replicate nd.length []:=by
 apply List.ext_getElem
 ·simp [iK]
 ·intro j h1 h2;simp [iK,kK,lK]
structure R0 (nd:List (List Nat)) (bad:List Bool) (i:Nat) (rank left:List Int) (now:List Nat):Prop where
 lr:rank.length=nd.length
 ll:left.length=nd.length
 rank_:∀u,u < i->rank.getD u 0 = -1
 left_:∀u,u < i->left.getD u 0=((nd.getD u []).length:Int)
 now_:now=firstTo nd bad i
theorem R0.step {nd:List (List Nat)} {bad:List Bool} {i:Nat} {rank left:List Int} {now:List Nat} (s:R0 nd bad i rank left now) (hi:i < nd.length) :
  R0 nd bad (i+1) (rank.set i (-1)) (left.set i ((nd.getD i []).length:Int)) (now ++ if nd.getD i []=[]/\bad.getD i false=false then [i] else []):=by
 refine ⟨by simpa using s.lr,by simpa using s.ll,fun u hu=>?_,fun u hu=>?_,by rw [Bi,s.now_]⟩
 ·rw [qB _ _ _ _ _ (by rw [s.lr];exact hi)]
  split
  ·rfl
  ·exact s.rank_ u (by omega)
 ·rw [qB _ _ _ _ _ (by rw [s.ll];exact hi)]
  split
  ·rename_i h;subst h;rfl
  ·exact s.left_ u (by omega)
end Go.Proofs.Yteamkjblpglliaa
end
section
set_option linter.unusedSimpArgs false
set_option linter.unusedVariables false
namespace Go.Proofs.Yteamkjblpglliaa
open Go.RowKit Go.SL Go.HL
end Go.Proofs.Yteamkjblpglliaa
end
section
set_option linter.unusedSimpArgs false
set_option linter.unusedVariables false
namespace Go.Proofs.Yteamkjblpglliaa
open Go.RowKit Go.SL Go.HL
end Go.Proofs.Yteamkjblpglliaa
end
section
set_option linter.unusedSimpArgs false
set_option linter.unusedVariables false
namespace Go.Proofs.Yteamkjblpglliaa
open Go.RowKit Go.HL
theorem jl (n:Int) (m:Nat) (hm:0 < m) (hm2:m<=1099511627776) (h1 : -9223372036854775808<=n) (h2:n<=9223372036854775807):HT Try.prog 10 [.int .i64 n,.int .i64 m] (fun r=>∃y:Nat,r=.int .i64 y/\y < m):=by
 refine HT.of rfl adA (Nat.le_of_ble_eq_true rfl) ?_
 unfold c10
 simp only [aO,Nat.reduceAdd]
 by_cases h0:n < 0
 ·obtain ⟨x,hx⟩:∃x:Nat,0 - (n+1)=x:=⟨(-(n+1)).toNat,by omega⟩
  have ht:(x:Int).tmod m=((x % m:Nat):Int):=(Int.ofNat_tmod x m).symm
  have hlt:=Nat.mod_lt x hm
  repeat (first|refine ah ?_|refine ag ?_|refine az ?_|refine dn (by rfl) (by rfl) (by (try simp (disch:=omega) only [go_sem,Int.reduceAdd,Int.reduceSub,Int.reduceMul,hx,ht]);try rfl) ?_|refine ax ?_|refine ak ?_|refine ae ?_|refine Hg (by rfl) (by rfl) (by omega) (by (try simp (disch:=omega) only [go_sem,Int.reduceAdd,Int.reduceSub,Int.reduceMul,hx,ht]);try rfl) ?_|refine Ea (by rfl) (by (try simp (disch:=omega) only [go_sem,Int.reduceAdd,Int.reduceSub,Int.reduceMul,hx,ht]);try rfl) ?_)
  refine ay ?_
  exact ⟨x % m,rfl,hlt⟩
 ·obtain ⟨x,rfl⟩:∃x:Nat,n=x:=⟨n.toNat,by omega⟩
  have ht:(x:Int).tmod m=((x % m:Nat):Int):=(Int.ofNat_tmod x m).symm
  have hlt:=Nat.mod_lt x hm
  repeat (first|refine ah ?_|refine ag ?_|refine az ?_|refine au ?_|refine ak ?_|refine ae ?_|refine aB ?_|refine Hg (by rfl) (by rfl) (by omega) (by (try simp (disch:=omega) only [go_sem,Int.reduceAdd,Int.reduceSub,Int.reduceMul,ht]);try rfl) ?_)
  refine ay ?_
  exact ⟨x % m,rfl,hlt⟩
theorem zY (l:List Int) (i:Nat) (m:Nat) (hm:0 < m) (hm2:m<=1099511627776) (hi:i<=1000000) (hl:l.length<=9223372036854775807) (hr:∀k,k < l.length -> -9223372036854775808<=l.getD k 0/\l.getD k 0<=9223372036854775807):HT Try.prog 33 [I l,.int .i64 i,.int .i64 m] (fun r=>∃y:Nat,r=.int .i64 y/\y < m):=by
 refine HT.of rfl ae4 (Nat.le_of_ble_eq_true rfl) ?_
 unfold c33
 simp only [I,aO,Nat.reduceAdd]
 by_cases hil:i < l.length
 ·have:=hr i hil
  repeat (first|refine ah ?_|refine aH ?_|refine aN ?_|refine bK (by rfl) aV mJ ?_|refine ag ?_|refine az ?_|refine aI ?_|refine aG ?_|refine au ?_|refine ak ?_|refine ae ?_|refine aB ?_|refine dE ?_)
  refine bg aK dO (jl (l.getD i 0) m hm hm2 this.1 this.2) ?_
  rintro _ ⟨y,rfl,hy⟩
  refine ⟨dF,_,_,_,_,_,dA,(by decide),aQ,?_⟩
  repeat (first|refine ah ?_|refine ag ?_)
  refine ay ?_
  exact ⟨y,rfl,hy⟩
 ·repeat (first|refine ah ?_|refine aH ?_|refine ag ?_|refine az ?_|refine aI ?_|refine aG ?_|refine ax ?_|refine ak ?_|refine ae ?_|refine dE ?_)
  refine ay ?_
  exact ⟨0,rfl,hm⟩
end Go.Proofs.Yteamkjblpglliaa
end
section
set_option linter.unusedSimpArgs false
set_option linter.unusedVariables false
namespace Go.Proofs.Yteamkjblpglliaa
open Go.RowKit Go.SL Go.HL
def gz:Nat->Nat->List Bool
 | _,0=>[]
 | b,k+1=>decide (b % 2=1) :: gz (b / 2) k
theorem nT:∀ (k b:Nat),(gz b k).length=k
 | 0,_=>rfl
 | k+1,b=>by simp [gz,nT k]
end Go.Proofs.Yteamkjblpglliaa
end
section
set_option linter.unusedSimpArgs false
set_option linter.unusedVariables false
namespace Go.Proofs.Yteamkjblpglliaa
open Go.RowKit Go.SL
theorem vI:∀ (X:List Bool),∃b,b < 2 ^ X.length/\gz b X.length=X
 | []=>⟨0,by simp,rfl⟩
 | x :: X=>by
  obtain ⟨b,hb,he⟩:=vI X
  refine ⟨2 * b+if x then 1 else 0,?_,?_⟩
  ·rw [List.length_cons,Nat.pow_succ]
   split <;> omega
  ·rw [List.length_cons]
   unfold gz
   cases x with
   | true=>simp only [if_true];rw [show (2 * b+1) % 2=1 by omega,show (2 * b+1) / 2=b by omega,he];simp
   | false=>simp only [Bool.false_eq_true,if_false,Nat.add_zero];rw [show (2 * b) % 2=0 by omega,show (2 * b) / 2=b by omega,he];simp
section
variable {w:List Int} {nd:List (List Nat)} {B:List Bool} {M:Int}
def Cand (nd:List (List Nat)) (k:Nat) (X:List Bool):Prop:=X=List.replicate nd.length false\/∃j,j < k/\X=gz j nd.length/\dG nd X
theorem Cand.len {k:Nat} {X:List Bool} (h:Cand nd k X):X.length=nd.length:=by
 rcases h with rfl|⟨j,_,rfl,_⟩
 ·simp
 ·exact nT _ _
theorem qI (n:Nat):dG nd (List.replicate n false):=fun u hu=>by
 rw [List.getD_eq_getElem?_getD,List.getElem?_replicate] at hu
 split at hu <;> simp at hu
theorem Cand.closed {k:Nat} {X:List Bool} (h:Cand nd k X):dG nd X:=by
 rcases h with rfl|⟨j,_,rfl,h⟩
 ·exact qI _
 ·exact h
theorem uH (w:List Int) (m:Nat):∀n,wS w (List.replicate m false) n=0
 | 0=>rfl
 | n+1=>by
  unfold wS
  rw [uH w m n,List.getD_eq_getElem?_getD,List.getElem?_replicate]
  split <;> simp
structure Best (w:List Int) (nd:List (List Nat)) (k:Nat) (B:List Bool) (M:Int):Prop where
 len:B.length=nd.length
 most:∀X,Cand nd k X->wS w X nd.length<=M
 some:∃X,Cand nd k X/\wS w X nd.length=M
 all:∀u:Nat,B.getD u false=true <-> ∀X,Cand nd k X->wS w X nd.length=M->X.getD u false=true
theorem Best.zero:Best w nd 0 (List.replicate nd.length false) 0:=by
 have hc:∀X,Cand nd 0 X <-> X=List.replicate nd.length false:=fun X=>⟨fun h=>by
  rcases h with h|⟨j,h,_⟩
  ·exact h
  ·omega,.inl⟩
 refine ⟨by simp,fun X h=>?_,⟨_,.inl rfl,uH _ _ _⟩,fun u=>⟨fun h X hX _=>by rw [(hc X).1 hX];exact h,fun h=>h _ (.inl rfl) (uH _ _ _)⟩⟩
 rw [(hc X).1 h,uH]
 exact Int.le_refl _
theorem Cand.succ {k:Nat} {X:List Bool}:Cand nd (k+1) X <-> Cand nd k X\/X=gz k nd.length/\dG nd X:=by
 constructor
 ·rintro (h|⟨j,h1,h2,h3⟩)
  ·exact .inl (.inl h)
  ·by_cases e:j=k
   ·subst e;exact .inr ⟨h2,h3⟩
   ·exact .inl (.inr ⟨j,by omega,h2,h3⟩)
 ·rintro ((h|⟨j,h1,h2,h3⟩)|⟨h1,h2⟩)
  ·exact .inl h
  ·exact .inr ⟨j,by omega,h2,h3⟩
  ·exact .inr ⟨k,by omega,h1,h2⟩
theorem Best.open {k:Nat} (h:Best w nd k B M) (hn:¬ dG nd (gz k nd.length)):Best w nd (k+1) B M:=by
 have hc:∀X,Cand nd (k+1) X <-> Cand nd k X:=fun X=>Cand.succ.trans ⟨fun h=>h.elim id fun ⟨h1,h2⟩=>absurd (h1 ▸ h2) hn,.inl⟩
 obtain ⟨X,h1,h2⟩:=h.some
 exact ⟨h.len,fun X hX=>h.most X ((hc X).1 hX),⟨X,(hc X).2 h1,h2⟩,fun u=>(h.all u).trans ⟨fun h X hX=>h X ((hc X).1 hX),fun h X hX=>h X ((hc X).2 hX)⟩⟩
theorem Best.less {k:Nat} (h:Best w nd k B M) (hl:wS w (gz k nd.length) nd.length < M):Best w nd (k+1) B M:=by
 obtain ⟨X,h1,h2⟩:=h.some
 refine ⟨h.len,fun X hX=>?_,⟨X,Cand.succ.2 (.inl h1),h2⟩,fun u=>(h.all u).trans ⟨fun h X hX e=>?_,fun h X hX=>h X (Cand.succ.2 (.inl hX))⟩⟩
 ·rcases Cand.succ.1 hX with hX|⟨rfl,_⟩
  ·exact h.most X hX
  ·omega
 ·rcases Cand.succ.1 hX with hX|⟨rfl,_⟩
  ·exact h X hX e
  ·omega
theorem Best.more {k:Nat} (h:Best w nd k B M) (hc:dG nd (gz k nd.length)) (hl:M < wS w (gz k nd.length) nd.length):Best w nd (k+1) (gz k nd.length) (wS w (gz k nd.length) nd.length):=by
 have hk:Cand nd (k+1) (gz k nd.length):=Cand.succ.2 (.inr ⟨rfl,hc⟩)
 refine ⟨nT _ _,fun X hX=>?_,⟨_,hk,rfl⟩,fun u=>⟨fun hu X hX e=>?_,fun h=>h _ hk rfl⟩⟩
 ·rcases Cand.succ.1 hX with hX|⟨rfl,_⟩
  ·have:=h.most X hX;omega
  ·exact Int.le_refl _
 ·rcases Cand.succ.1 hX with hX|⟨rfl,_⟩
  ·have:=h.most X hX;omega
  ·exact hu
theorem Best.same {k:Nat} {D:List Bool} (h:Best w nd k B M) (hc:dG nd (gz k nd.length)) (he:wS w (gz k nd.length) nd.length=M) (hD:D.length=nd.length) (hg:∀u:Nat,D.getD u false=(B.getD u false && (gz k nd.length).getD u false)):Best w nd (k+1) D M:=by
 obtain ⟨X,h1,h2⟩:=h.some
 have hk:Cand nd (k+1) (gz k nd.length):=Cand.succ.2 (.inr ⟨rfl,hc⟩)
 refine ⟨hD,fun X hX=>?_,⟨X,Cand.succ.2 (.inl h1),h2⟩,fun u=>?_⟩
 ·rcases Cand.succ.1 hX with hX|⟨rfl,_⟩
  ·exact h.most X hX
  ·omega
 ·rw [hg,Bool.and_eq_true,h.all u]
  constructor
  ·rintro ⟨h1,h2⟩ X hX e
   rcases Cand.succ.1 hX with hX|⟨rfl,_⟩
   ·exact h1 X hX e
   ·exact h2
  ·intro h1
   exact ⟨fun X hX=>h1 X (Cand.succ.2 (.inl hX)),h1 _ hk he⟩
theorem Best.done {S:List Bool} (h:Best w nd (2 ^ nd.length) B M) (hS:nI w nd S):B=S/\M=wS w S nd.length:=by
 have hall:∀X:List Bool,X.length=nd.length->dG nd X->Cand nd (2 ^ nd.length) X:=fun X hl hc=>by
  obtain ⟨b,hb,he⟩:=vI X
  rw [hl] at hb he
  exact .inr ⟨b,hb,he.symm,hc⟩
 have hM:M=wS w S nd.length:=by
  obtain ⟨X,h1,h2⟩:=h.some
  have a:=hS.most X h1.len h1.closed
  have b:=h.most S (hall S hS.len hS.closed)
  omega
 refine ⟨?_,hM⟩
 have hu:∀u:Nat,B.getD u false=true <-> S.getD u false=true:=fun u=>(h.all u).trans ⟨fun h=>h S (hall S hS.len hS.closed) hM.symm,fun hu X hX e=>hS.least X hX.len hX.closed (by rw [e,hM]) u hu⟩
 apply List.ext_getElem
 ·rw [h.len,hS.len]
 ·intro i h1 h2
  have:=hu i
  rw [List.getD_eq_getElem?_getD,List.getElem?_eq_getElem h1,List.getD_eq_getElem?_getD,List.getElem?_eq_getElem h2,Option.getD_some,Option.getD_some] at this
  exact Bool.eq_iff_iff.2 this
end
end Go.Proofs.Yteamkjblpglliaa
end
section
set_option linter.unusedSimpArgs false
set_option linter.unusedVariables false
namespace Go.Proofs.Yteamkjblpglliaa
open Go.RowKit Go.SL Go.HL
def IsB (p:Prop) (r:HV):Prop:=∃b:Bool,r=.bool b/\(b=true <-> p)
theorem Ku (n s t:Int) (es:List Edge) (hl:es.length<=9223372036854775807):HT Try.prog 40 [.int .i64 n,Es es,.int .i64 s,.int .i64 t] (IsB (VNet n s t es)):=by
 refine ⟨callable aem,fun w rargs F hF ho=>?_⟩
 obtain ⟨_,_,rfl,o1,q2⟩:=gK ho
 obtain ⟨_,_,rfl,o2,q3⟩:=gK q2
 obtain ⟨_,_,rfl,o3,q4⟩:=gK q3
 obtain ⟨_,_,rfl,o4,q5⟩:=gK q4
 obtain rfl:=xm q5
 obtain ⟨a,cap,rfl,hr⟩:=uP hF o2
 obtain rfl:=of_int o1
 obtain rfl:=of_int o3
 obtain rfl:=of_int o4
 refine (rM n a _ cap es s t w hr rfl hl).mono ?_
 rintro e w' ⟨b,rfl,hb,hB⟩
 exact wF ⟨b,rfl,hb⟩ hB fun F h=>.bool .nil
set_option maxHeartbeats 4000000 in
theorem zI (n s t:Int) (es:List Edge) (hl:es.length<=9223372036854775807):HT Try.prog 76 [.int .i64 n,Es es,.int .i64 s,.int .i64 t] (IsB (VNet n s t es)):=by
 refine HT.of rfl adx (Nat.le_of_ble_eq_true rfl) ?_
 unfold c76
 simp only [Es,aO,Nat.reduceAdd]
 have key:(2<=n/\n<=258/\0<=s/\s < n/\0<=t/\t < n/\¬ s=t/\es.length<=65536)\/(n < 2\/(2<=n/\n > 258)\/(2<=n/\n<=258/\s < 0)\/(2<=n/\n<=258/\0<=s/\n<=s)\/(2<=n/\n<=258/\0<=s/\s < n/\t < 0) \/
  (2<=n/\n<=258/\0<=s/\s < n/\0<=t/\n<=t)\/(2<=n/\n<=258/\0<=s/\s < n/\0<=t/\t < n/\s=t)\/(2<=n/\n<=258/\0<=s/\s < n/\0<=t/\t < n/\¬ s=t/\es.length > 65536)):=by omega
 rcases key with h|h
 ·repeat (first|refine ah ?_|refine aH ?_|refine ag ?_|refine az ?_|refine aX ?_|refine aI ?_|refine aG ?_|refine au ?_|refine ak ?_|refine ae ?_|refine aC ?_|refine aB ?_|refine bu ?_|refine dE ?_)
  refine bH [0,1,9] (fun k:Nat=>k<=es.length/\∀j,j < k->uM n (es.getD j default)) (fun k=>⟨[(0,.int .i64 n),(1,.sl es.length (edges es)),(9,.int .i64 k)],[],0⟩) (fun k=>es.length - k) 0 ⟨by omega,fun j hj=>by omega⟩ rfl ?_
  rintro k ⟨hk,hall⟩
  by_cases hkl:k < es.length
  ·have hmem:es.getD k default∈es:=by
    have:es.getD k default=es[k]:=by simp [hkl]
    rw [this];exact List.getElem_mem hkl
   have key2:(0<=(es.getD k default).f/\(es.getD k default).f < n/\0<=(es.getD k default).t/\(es.getD k default).t < n/\¬ (es.getD k default).f=(es.getD k default).t/\0<=(es.getD k default).c/\(es.getD k default).c<=1099511627776) \/
    ((es.getD k default).f < 0\/(0<=(es.getD k default).f/\n<=(es.getD k default).f)\/(0<=(es.getD k default).f/\(es.getD k default).f < n/\(es.getD k default).t < 0)\/(0<=(es.getD k default).f/\(es.getD k default).f < n/\0<=(es.getD k default).t/\n<=(es.getD k default).t) \/
     (0<=(es.getD k default).f/\(es.getD k default).f < n/\0<=(es.getD k default).t/\(es.getD k default).t < n/\(es.getD k default).f=(es.getD k default).t) \/
     (0<=(es.getD k default).f/\(es.getD k default).f < n/\0<=(es.getD k default).t/\(es.getD k default).t < n/\¬ (es.getD k default).f=(es.getD k default).t/\(es.getD k default).c < 0) \/
     (0<=(es.getD k default).f/\(es.getD k default).f < n/\0<=(es.getD k default).t/\(es.getD k default).t < n/\¬ (es.getD k default).f=(es.getD k default).t/\0<=(es.getD k default).c/\1099511627776 < (es.getD k default).c)):=by omega
   rcases key2 with h2|h2
   ·repeat (first|refine ah ?_|refine aH ?_|refine aN ?_|refine aF ?_|refine ag ?_|refine az ?_|refine aX ?_|refine aI ?_|refine bM ?_|refine aG ?_|refine ax ?_|refine au ?_|refine ak ?_|refine ae ?_|refine aC ?_|refine dm ?_|refine aB ?_|refine bu ?_|refine dE ?_|refine aA ?_|refine Af (by rfl) aV He ?_|refine iF ?_|refine gU gY ?_)
    exact bQ [0,1,9] (k+1) ⟨hkl,fun j hj=>by
     rcases Nat.lt_or_ge j k with h3|h3
     ·exact hall j h3
     ·obtain rfl:j=k:=by omega
      exact h2⟩ (by omega) rfl
   ·have hbad:¬ VNet n s t es:=fun hv=>by
     obtain ⟨b1,b2,b3,b4,b5,b6,b7⟩:=hv.all _ hmem
     omega
    rcases h2 with h2|h2|h2|h2|h2|h2|h2
    all_goals
     repeat (first|refine ah ?_|refine aH ?_|refine bT ?_|refine aN ?_|refine aF ?_|refine ag ?_|refine az ?_|refine aX ?_|refine aJ ?_|refine aI ?_|refine aG ?_|refine ax ?_|refine ak ?_|refine ae ?_|refine aC ?_|refine aB ?_|refine bu ?_|refine dE ?_|refine aA ?_|refine Af (by rfl) aV He ?_|refine iF ?_|refine gU gY ?_)
     refine ay ?_
     exact ⟨false,rfl,by simp [hbad]⟩
  ·obtain rfl:k=es.length:=by omega
   have hgood:VNet n s t es:=⟨h.1,h.2.1,h.2.2.1,h.2.2.2.1,h.2.2.2.2.1,h.2.2.2.2.2.1,h.2.2.2.2.2.2.1,h.2.2.2.2.2.2.2,fun e he=>by
    obtain ⟨j,hj,rfl⟩:=List.getElem_of_mem he
    have:=hall j hj
    simpa [hj] using this⟩
   repeat (first|refine ah ?_|refine ag ?_|refine az ?_|refine aG ?_|refine bz (by rfl) ?_|refine au ?_|refine ak ?_|refine ae ?_)
   refine ay ?_
   exact ⟨true,rfl,by simp [hgood]⟩
 ·have hbad:¬ VNet n s t es:=fun hv=>by have:=hv.bounds;omega
  rcases h with h|h|h|h|h|h|h|h
  all_goals
   repeat (first|refine ah ?_|refine aH ?_|refine bT ?_|refine ag ?_|refine az ?_|refine aX ?_|refine aJ ?_|refine aI ?_|refine aG ?_|refine ax ?_|refine ak ?_|refine ae ?_|refine bu ?_|refine dE ?_)
   refine ay ?_
   exact ⟨false,rfl,by simp [hbad]⟩
end Go.Proofs.Yteamkjblpglliaa
end
