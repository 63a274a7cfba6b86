import Derived.Test.YteamkjblpglliaaAbR
import Derived.Test.YteamkjblpglliaaAbC
import Derived.Test.YteamkjblpglliaaClClsd
section
set_option linter.unusedSimpArgs false
set_option linter.unusedVariables false
namespace Go.Proofs.Yteamkjblpglliaa
open Go.RowKit Go.SL Go.HL
structure Sel (C:List Int) (nd:List (List Nat)) (B:Int) (S:List Bool):Prop where
 len:S.length=nd.length
 closed:dH nd S
 cost:wS C S nd.length<=B
theorem uu (W C:List Int) (num den:Int) (X:List Bool):∀n,n<=W.length->wS (gB W C num den) X n=den*wS W X n - num*wS C X n
 | 0,_=>by simp [wS]
 | n+1,h=>by
  simp only [wS]
  rw [uu W C num den X n (by omega)]
  cases X.getD n false with
  | false=>simp
  | true =>
   simp only [if_true]
   rw [uY W C num den (by omega),Int.mul_add,Int.mul_add]
   omega
theorem BQ {w:List Int} (hw:∀i,0<=w.getD i 0) {X Y:List Bool} (h:∀u:Nat,X.getD u false=true->Y.getD u false=true):∀n,wS w X n<=wS w Y n
 | 0=>by simp [wS]
 | n+1=>by
  have ih:=BQ hw h n
  have:=hw n
  simp only [wS]
  cases hX:X.getD n false with
  | true=>rw [h n hX];simp only [if_true];omega
  | false =>
   simp only [Bool.false_eq_true,if_false]
   split<;>omega
theorem Ee {fr fr':Nat->Bool} {n i:Nat} (h:∀k,fr' k=true->fr k=true) (hi:i<n) (h1:fr i=true) (h2:fr' i=false):(gY fr' n).length<(gY fr n).length:=by
 have le:∀m,(gY fr' m).length<=(gY fr m).length:=fun m=>by
  induction m with
  | zero=>simp [gY]
  | succ m ih =>
   rw [iY,iY,List.length_append,List.length_append]
   cases hm:fr' m with
   | true=>rw [h m hm];simp;exact ih
   | false=>simp only [Bool.false_eq_true,if_false,List.length_nil];omega
 have:∀d,(gY fr' (i+1+d)).length<(gY fr (i+1+d)).length:=fun d=>by
  induction d with
  | zero =>
   rw [Nat.add_zero,iY,iY,h1,h2]
   have:=le i
   simp only [Bool.false_eq_true,if_false,if_true,List.append_nil,List.length_append,List.length_cons,List.length_nil]
   omega
  | succ d ih =>
   rw [<- Nat.add_assoc,iY,iY,List.length_append,List.length_append]
   cases hm:fr' (i+1+d) with
   | true=>rw [h _ hm];simp;omega
   | false=>simp only [Bool.false_eq_true,if_false,List.length_nil];omega
 have:=this (n - (i+1))
 rw [show i+1+(n - (i+1))=n by omega] at this
 exact this
def Keeps (W C:List Int) (n:Nat) (a b:List Bool):Prop:=∀X:List Bool,X.length=n->rE W C n X a=false->rE W C n X b=false
theorem Keeps.refl (W C:List Int) (n:Nat) (a:List Bool):Keeps W C n a a:=fun _ _ h=>h
theorem Keeps.trans {W C:List Int} {n:Nat} {a b c:List Bool} (h1:Keeps W C n a b) (h2:Keeps W C n b c):Keeps W C n a c:=fun X hX h=>h2 X hX (h1 X hX h)
theorem ui {W C:List Int} {n:Nat} {B:Int} {s:Se} {set:List Bool} (hs:set.length=n) (hb:s.best.length=n):Keeps W C n s.best (wu W C n B s set).best:=by
 intro X hX h
 unfold wu
 split
 ·rename_i hc
  simp only
  cases hx:rE W C n X set with
  | false=>rfl
  | true =>
   have:=zn (by rw [hX,hs]) (by rw [hs,hb]) hx hc.2
   rw [h] at this;cases this
 ·exact h
theorem Ip {W C:List Int} {n:Nat} {B:Int} {s:Se} {set:List Bool} (hc:wS C set n<=B):rE W C n set (wu W C n B s set).best=false:=by
 unfold wu
 split
 ·simp only;exact BF W C n set
 ·rename_i h
  cases hb:rE W C n set s.best with
  | false=>rfl
  | true=>exact absurd ⟨hc,hb⟩ h
theorem yw {W C:List Int} {nd:List (List Nat)} {B:Int} {s:Se} {set:List Bool} (h:Sel C nd B s.best) (hl:set.length=nd.length) (hc:dH nd set):Sel C nd B (wu W C nd.length B s set).best:=by
 unfold wu
 split
 ·rename_i h1;exact ⟨hl,hc,h1.1⟩
 ·exact h
theorem vT {W C:List Int} {n:Nat} {B:Int} {s:Se} {set:List Bool}:∃b,wu W C n B s set={ s with best:=b }/\(b=set\/b=s.best):=by
 unfold wu
 split
 ·exact ⟨set,rfl,.inl rfl⟩
 ·exact ⟨s.best,rfl,.inr rfl⟩
structure Z5 (C:List Int) (nd:List (List Nat)) (B:Int) (inn out X:List Bool):Prop where
 sel:Sel C nd B X
 sub:∀u:Nat,inn.getD u false=true->X.getD u false=true
 apart:∀u:Nat,out.getD u false=true->X.getD u false=false
def ES (k:Nat):Int:=((2 ^ (k+1) - 1:Nat):Int)
theorem oP (k:Nat):1<=ES k:=by
 unfold ES
 have:2<=2 ^ (k+1):=by rw [Nat.pow_succ];have:=Nat.two_pow_pos k;omega
 omega
theorem yF {a b:Nat} (h:a<=b):ES a<=ES b:=by
 unfold ES
 have:2 ^ (a+1)<=2 ^ (b+1):=Nat.pow_le_pow_right (by omega) (by omega)
 omega
theorem Ib {a b k:Nat} (ha:a<k) (hb:b<k):1+ES a+ES b<=ES k:=by
 have h1:=yF (show a<=k - 1 by omega)
 have h2:=yF (show b<=k - 1 by omega)
 have h3:ES k=1+ES (k - 1)+ES (k - 1):=by
  unfold ES
  rw [show k+1=(k - 1+1)+1 by omega,Nat.pow_succ 2 (k - 1+1)]
  have:=Nat.two_pow_pos (k - 1+1)
  omega
 omega
structure BrR (W C:List Int) (nd:List (List Nat)) (B:Int) (inn out:List Bool) (s s':Se) (b:Bool):Prop where
 same:s'={ s with steps:=s'.steps,best:=s'.best }
 steps:0<=s'.steps/\s'.steps<=s.steps
 sel:Sel C nd B s'.best
 keeps:Keeps W C nd.length s.best s'.best
 all:b=true->∀X,Z5 C nd B inn out X->rE W C nd.length X s'.best=false
 enough:ES (gY (free inn out) nd.length).length<=s.steps->b=true/\s.steps - ES (gY (free inn out) nd.length).length<=s'.steps
theorem BrR.stop {W C:List Int} {nd:List (List Nat)} {B:Int} {inn out:List Bool} {s:Se} (h0:s.steps=0) (hs:Sel C nd B s.best):BrR W C nd B inn out s s false :=
 ⟨rfl,by omega,hs,Keeps.refl _ _ _ _,by simp,fun h=>by have:=oP (gY (free inn out) nd.length).length;omega⟩
theorem prune {W C:List Int} {nd:List (List Nat)} {B v num den:Int} {inn out A best:List Bool} (hlw:W.length=nd.length) (hm:Mul num den) (hR:L8 (gB W C num den) nd inn out A v) (hcut:(v+den*wS W inn nd.length - num*wS C inn nd.length+num*B) / den<wS W best nd.length) {X:List Bool} (hX:Z5 C nd B inn out X):rE W C nd.length X best=false:=by
 have h1:=hR.most X hX.sel.len hX.sel.closed hX.sub hX.apart
 rw [uu _ _ _ _ _ _ (by omega),uu _ _ _ _ _ _ (by omega)] at h1
 have h2:num*wS C X nd.length<=num*B:=Int.mul_le_mul_of_nonneg_left hX.sel.cost hm.1.1
 have h3:wS W X nd.length*den<=v+den*wS W inn nd.length - num*wS C inn nd.length+num*B:=by
  rw [Int.mul_comm];omega
 have h4:wS W X nd.length<=(v+den*wS W inn nd.length - num*wS C inn nd.length+num*B) / den:=(Int.le_ediv_iff_mul_le (by have:=hm.2.1;omega)).2 h3
 unfold rE
 rw [if_neg (by omega)]
 simp only [decide_eq_false_iff_not]
 omega
end Go.Proofs.Yteamkjblpglliaa
end
section
set_option linter.unusedSimpArgs false
set_option linter.unusedVariables false
namespace Go.Proofs.Yteamkjblpglliaa
open Go.RowKit Go.SL Go.HL
theorem vw (l:List Int) (set:List Bool) (hl:WOK l) (hls:set.length=l.length) (hn:set.length<=100000):HT Try.prog 22 [I l,Bl set] (fun r=>r=.int .i64 (wS l set set.length)):=by
 refine HT.of rfl ad1 (Nat.le_of_ble_eq_true rfl) ?_
 unfold c22
 simp only [I,Bl,aP,Nat.reduceAdd]
 rw [<- hls]
 repeat (first|refine ah ?_|refine ag ?_|refine ak ?_|refine ae ?_|refine aB ?_)
 refine bD [0,1,5,6] (fun i:Nat=>i<=set.length)
  (fun i=>⟨[(0,.sl set.length (HL.ints l)),(1,.sl set.length (HL.bools set)),(5,.int .i64 (wS l set i)),(6,.int .i64 i)],[],0⟩) (fun i=>set.length - i) 0 (by omega) rfl ?_
 intro i hi
 by_cases hil:i<set.length
 ·have hbd:=sW hl set i
  have hx:=hl i
  have hnx:wS l set (i+1)=wS l set i+if set.getD i false then l.getD i 0 else 0:=rfl
  obtain ⟨x,hxe⟩:∃x,l.getD i 0=x:=⟨_,rfl⟩
  rw [hxe] at hx hnx
  cases hb:set.getD i false with
  | true =>
   rw [hb,if_pos rfl] at hnx
   repeat (first|refine ah ?_|refine aG ?_|refine aN ?_|refine bK (by rfl) aT (by (try simp (disch:=omega) only [go_sem,hb,hxe]);try rfl) ?_|refine ag ?_|refine az ?_|refine aK ?_|refine di (by rfl) (by rfl) (by (try simp (disch:=omega) only [go_sem,Int.reduceAdd,Int.reduceSub,Int.reduceMul,hb,hxe]);try rfl) ?_|refine aF ?_|refine ax ?_|refine ak ?_|refine ae ?_|refine aB ?_|refine dh ?_|refine aA ?_)
   exact bJ [0,1,5,6] (i+1) hil (by omega) (by rw [hnx];rfl)
  | false =>
   rw [hb,if_neg (by decide),Int.add_zero] at hnx
   repeat (first|refine ah ?_|refine aG ?_|refine aN ?_|refine bK (by rfl) aT (by (try simp (disch:=omega) only [go_sem,hb]);try rfl) ?_|refine ag ?_|refine az ?_|refine aK ?_|refine di (by rfl) (by rfl) (by (try simp (disch:=omega) only [go_sem,Int.reduceAdd,Int.reduceSub,Int.reduceMul,hb]);try rfl) ?_|refine aF ?_|refine ax ?_|refine au ?_|refine ak ?_|refine ae ?_|refine aB ?_|refine dh ?_|refine aA ?_)
   exact bJ [0,1,5,6] (i+1) hil (by omega) (by rw [hnx];rfl)
 ·obtain rfl:i=set.length:=by omega
  repeat (first|refine ah ?_|refine bZ ?_|refine ag ?_|refine az ?_|refine aI ?_|refine aF ?_|refine aO ?_|refine au ?_|refine ak ?_|refine ae ?_)
  refine ay ?_
  rfl
theorem FU (a b:List Bool) (h1:a.length<=9223372036854775807) (h2:b.length<=9223372036854775807):HT Try.prog 21 [Bl a,Bl b] (fun r=>r=.bool (decide (a=b))):=by
 refine HT.of rfl aeh (Nat.le_of_ble_eq_true rfl) ?_
 unfold c21
 simp only [Bl,aP,Nat.reduceAdd]
 by_cases hab:a.length=b.length
 ·repeat (first|refine ah ?_|refine ag ?_|refine aW ?_|refine aF ?_|refine au ?_|refine ak ?_|refine ae ?_|refine aB ?_|refine aA ?_)
  refine bD [0,1,5] (fun i:Nat=>i<=a.length/\a.take i=b.take i)
   (fun i=>⟨[(0,.sl a.length (HL.bools a)),(1,.sl b.length (HL.bools b)),(5,.int .i64 i)],[],0⟩) (fun i=>a.length - i) 0 ⟨by omega,by simp⟩ rfl ?_
  rintro i ⟨hi,hE⟩
  by_cases hil:i<a.length
  ·have ta:=cO a i false hil
   have tb:=cO b i false (by omega)
   obtain ⟨x,hx⟩:∃x,a.getD i false=x:=⟨_,rfl⟩
   obtain ⟨y,hy⟩:∃x,b.getD i false=x:=⟨_,rfl⟩
   by_cases hxy:x=y
   ·subst hxy
    repeat (first|refine ah ?_|refine ag ?_|refine az ?_|refine aF ?_|refine ax ?_|refine ak ?_|refine ae ?_|refine aB ?_|refine aA ?_)
    refine bQ bi bi (fun _ _ _=>False) ?_
    repeat (first|refine ah ?_|refine aN ?_|refine bK (by rfl) aT (by (try simp (disch:=omega) only [go_sem,hx,hy]);try rfl) ?_|refine ag ?_|refine di (by rfl) (by rfl) (by (try simp (disch:=omega) only [go_sem,Int.reduceAdd,Int.reduceSub,Int.reduceMul,hx,hy]);try rfl) ?_|refine au ?_|refine ae ?_|refine dh ?_|refine aA ?_|refine Aa (by rfl) (by rfl) (by (try simp only [go_sem,reduceIte,hx,hy]);try rfl) ?_)
    exact bJ [0,1,5] (i+1) ⟨hil,by rw [ta,tb,hE,hx,hy]⟩ (by omega) rfl
   ·have hne:(x==y)=false:=by simpa using hxy
    repeat (first|refine ah ?_|refine ag ?_|refine az ?_|refine aF ?_|refine ax ?_|refine ak ?_|refine ae ?_|refine aB ?_|refine aA ?_)
    refine bQ bi bi (fun _ _ _=>False) ?_
    repeat (first|refine ah ?_|refine aN ?_|refine bK (by rfl) aT (by (try simp (disch:=omega) only [go_sem,hx,hy,hne]);try rfl) ?_|refine ag ?_|refine ax ?_|refine ak ?_|refine ae ?_|refine Aa (by rfl) (by rfl) (by (try simp only [go_sem,reduceIte,hx,hy,hne]);try rfl) ?_)
    refine ay ?_
    have:a≠b:=fun e=>hxy (by rw [<- hx,<- hy,e])
    simp [dP,this]
  ·obtain rfl:i=a.length:=by omega
   rw [List.take_length,hab,List.take_length] at hE
   repeat (first|refine ah ?_|refine ag ?_|refine az ?_|refine aF ?_|refine aO ?_|refine au ?_|refine ak ?_|refine ae ?_)
   refine ay ?_
   simp [dP,hE]
 ·have:a≠b:=fun e=>hab (by rw [e])
  repeat (first|refine ah ?_|refine ag ?_|refine aW ?_|refine aF ?_|refine ax ?_|refine ak ?_|refine ae ?_)
  refine ay ?_
  simp [dP,this]
def wW (b:Int) (k:Nat):List Bool:=(List.range k).map fun i=>decide (b.fdiv (2 ^ i) % 2=1)
theorem JP (b:Int) (k:Nat):wW b (k+1)=wW b k++[decide (b.fdiv (2 ^ k) % 2=1)]:=by simp [wW,List.range_succ]
theorem uX (b:Int) (k:Nat):(wW b k).length=k:=by simp [wW]
theorem yM:∀ (k b i:Nat),i<k->(fB b k).getD i false=decide (b / 2 ^ i % 2=1)
 | 0,_,_,h=>by omega
 | k+1,b,0,_=>by simp [fB]
 | k+1,b,i+1,h=>by
  have:=yM k (b / 2) i (by omega)
  simp only [fB,List.getD_cons_succ,this]
  rw [Nat.div_div_eq_div_mul,Nat.pow_succ,Nat.mul_comm 2]
theorem U3 (b k:Nat):wW (b:Int) k=fB b k:=by
 apply List.ext_getElem
 ·rw [uX,nY]
 ·intro i h1 h2
  rw [uX] at h1
  have e2:=gW (d:=false) h2
  rw [<- e2,yM k b i h1]
  simp only [wW,List.getElem_map,List.getElem_range]
  have:(b:Int).fdiv (2 ^ i) % 2=((b / 2 ^ i % 2:Nat):Int):=by
   rw [Int.fdiv_eq_ediv_of_nonneg _ (Int.le_of_lt (Int.pow_pos (by omega)))]
   simp
  rw [this]
  by_cases h:b / 2 ^ i % 2=1
  ·rw [decide_eq_true h,h];rfl
  ·rw [decide_eq_false h]
   have:b / 2 ^ i % 2=0:=by omega
   rw [this];rfl
theorem Ky (a:Int):IntKind.i64.wrap ((BitVec.ofInt 64 a &&& BitVec.ofInt 64 1).toNat)=a % 2:=by
 have h0:(BitVec.ofInt 64 a &&& BitVec.ofInt 64 1).toNat=(a % 2).toNat:=by
  rw [BitVec.toNat_and]
  have e1:(BitVec.ofInt 64 (1:Int)).toNat=1:=by decide
  rw [e1,Nat.and_one_is_mod,BitVec.toNat_ofInt]
  omega
 rw [h0]
 have h1:=Int.emod_nonneg a (show (2:Int)≠0 by omega)
 have h2:=Int.emod_lt_of_pos a (show (0:Int)<2 by omega)
 rcases (show a % 2=0\/a % 2=1 by omega) with h|h<;>rw [h]<;>decide
theorem Kr {b:Int} (h1 : -9223372036854775808<=b) (h2:b<=9223372036854775807) (i:Nat) : -9223372036854775808<=b.fdiv (2 ^ i)/\b.fdiv (2 ^ i)<=9223372036854775807:=by
 have hp:(0:Int)<2 ^ i:=Int.pow_pos (by omega)
 rw [Int.fdiv_eq_ediv_of_nonneg _ (Int.le_of_lt hp)]
 constructor
 ·refine (Int.le_ediv_iff_mul_le hp).2 ?_
  have : -9223372036854775808*(2:Int) ^ i <= -9223372036854775808*1:=Int.mul_le_mul_of_nonpos_left (by omega) (by omega)
  omega
 ·rcases Int.le_total 0 b with h|h
  ·exact Int.le_trans (Int.ediv_le_self _ h) h2
  ·have:=Int.ediv_le_ediv hp h
   rw [Int.zero_ediv] at this
   omega
set_option maxHeartbeats 2000000 in
theorem LX (n:Nat) (b:Int) (hn:n<=64) (h1 : -9223372036854775808<=b) (h2:b<=9223372036854775807):HT Try.prog 24 [.int .i64 n,.int .i64 b] (fun r=>r=.osl 1 n (HL.bools (wW b n))):=by
 refine HT.of rfl aeE (Nat.le_of_ble_eq_true rfl) ?_
 unfold c24
 simp only [aP,Nat.reduceAdd]
 repeat (first|refine ah ?_|refine ag ?_|refine ak ?_|refine ae ?_|refine aB ?_|refine eU rfl (by rfl) gU ?_)
 refine bD [0,1,5,6] (fun i:Nat=>i<=n)
  (fun i=>⟨[(0,.int .i64 n),(1,.int .i64 b),(5,.ref 0 [] 1 0 i),(6,.int .i64 i)],[(0,.osl 1 i (HL.bools (wW b i)))],1⟩) (fun i=>n - i) 0 (by omega) rfl ?_
 intro i hi
 by_cases hin:i<n
 ·have hm:min i IntKind.i64.bits=i:=by show min i 64=i;omega
  have hm2:min i 64=i:=by omega
  have hu:IntKind.u64.wrap (i:Int)=i:=by
   have:∀j,j<64->IntKind.u64.wrap ((j:Nat):Int)=j:=by decide +kernel
   exact this i (by omega)
  have hfr:=Kr h1 h2 i
  have hand:=Ky (b.fdiv (2 ^ i))
  have hsn:∀z:Bool,HL.bools (wW b i)++[HV.bool z]=HL.bools (wW b i++[z]):=fun z=>by simp [HL.bools]
  have hXl:(HL.bools (wW b i)).length=i:=by rw [HL.bools_len,uX]
  have hXn:=uX b i
  have hnx:=JP b i
  by_cases hz:b.fdiv (2 ^ i) % 2=1
  ·rw [decide_eq_true hz] at hnx
   rw [hz] at hand
   repeat (first|refine ah ?_|refine ag ?_|refine az ?_|refine ax ?_|refine ak ?_|refine ae ?_|refine aB ?_|refine aA ?_)
   refine Bh (by rfl) (by (try simp (disch:=omega) only [go_sem,Int.reduceAdd,Int.reduceSub,Int.reduceMul,hu]);try rfl) ?_
   refine OZ (by rfl) (by rfl) (by omega) (by (try simp (disch:=omega) only [go_sem,Int.reduceAdd,Int.reduceSub,Int.reduceMul,hm,hm2]);try rfl) ?_
   refine Ph (by rfl) (by rfl) hand ?_
   repeat (first|refine ah ?_|refine ag ?_|refine aY ?_|refine di (by rfl) (by rfl) (by (try simp (disch:=omega) only [go_sem,Int.reduceAdd,Int.reduceSub,Int.reduceMul,hsn]);try rfl) ?_|refine ae ?_|refine dh ?_|refine dF ?_|refine jq gU (by rfl) fP AY (by (try simp (disch:=omega) only [go_sem,reduceIte,Nat.reduceEqDiff,Nat.reduceAdd,Nat.reduceMul,hsn]);try omega) dm (by (try simp (disch:=omega) only [go_sem,reduceIte,Nat.reduceEqDiff,Nat.reduceAdd,Nat.reduceMul,hsn]);try rfl) gU (by omega) jT aT (by (try simp (disch:=omega) only [go_sem,reduceIte,Nat.reduceEqDiff,Nat.reduceAdd,Nat.reduceMul,hsn]);try rfl) bW ?_)
   exact bJ [0,1,5,6] (i+1) hin (by omega) (by rw [hnx];rfl)
  ·have hz0:b.fdiv (2 ^ i) % 2=0:=by omega
   rw [decide_eq_false hz] at hnx
   rw [hz0] at hand
   repeat (first|refine ah ?_|refine ag ?_|refine az ?_|refine ax ?_|refine ak ?_|refine ae ?_|refine aB ?_|refine aA ?_)
   refine Bh (by rfl) (by (try simp (disch:=omega) only [go_sem,Int.reduceAdd,Int.reduceSub,Int.reduceMul,hu]);try rfl) ?_
   refine OZ (by rfl) (by rfl) (by omega) (by (try simp (disch:=omega) only [go_sem,Int.reduceAdd,Int.reduceSub,Int.reduceMul,hm,hm2]);try rfl) ?_
   refine Ph (by rfl) (by rfl) hand ?_
   repeat (first|refine ah ?_|refine ag ?_|refine aY ?_|refine di (by rfl) (by rfl) (by (try simp (disch:=omega) only [go_sem,Int.reduceAdd,Int.reduceSub,Int.reduceMul,hsn]);try rfl) ?_|refine ae ?_|refine dh ?_|refine dF ?_|refine jq gU (by rfl) fP AY (by (try simp (disch:=omega) only [go_sem,reduceIte,Nat.reduceEqDiff,Nat.reduceAdd,Nat.reduceMul,hsn]);try omega) dm (by (try simp (disch:=omega) only [go_sem,reduceIte,Nat.reduceEqDiff,Nat.reduceAdd,Nat.reduceMul,hsn]);try rfl) gU (by omega) jT aT (by (try simp (disch:=omega) only [go_sem,reduceIte,Nat.reduceEqDiff,Nat.reduceAdd,Nat.reduceMul,hsn]);try rfl) bW ?_)
   exact bJ [0,1,5,6] (i+1) hin (by omega) (by rw [hnx];rfl)
 ·obtain rfl:i=n:=by omega
  repeat (first|refine ah ?_|refine ag ?_|refine az ?_|refine aO ?_|refine au ?_|refine ak ?_|refine ae ?_)
  refine ay ?_
  rfl
set_option maxHeartbeats 4000000 in
theorem Gv {W C:List Int} {nd:List (List Nat)} {B:Int} (h:Pb W C nd B) (set:List Bool) (hs:set.length<=9223372036854775807):HT Try.prog 30 [.agg (jD W C nd B),Bl set] (fun r=>∃b,r=.bool b/\(b=true <-> Sel C nd B set)):=by
 have hsz:=h.g.size
 have hlw:=h.lw
 have hlc:=h.lc
 have hnl:(nd.map nl).length=nd.length:=by simp
 have hcl:=xR (nd.map nl) set (by omega) hs (fun i=>by rw [dM,fH];have:=h.g.len i;omega)
 simp only [Gs,Bl,hnl] at hcl
 refine HT.of rfl aey (Nat.le_of_ble_eq_true rfl) ?_
 unfold c30
 simp only [I,Gs,Bl,jD,aP,Nat.reduceAdd,hlw,hlc,hnl]
 repeat (first|refine ah ?_|refine ag ?_|refine ak ?_|refine ae ?_|refine dX ?_)
 refine bQ bi bi (fun f _ r=>if f=22 then r=.int .i64 (wS C set nd.length) else r=.bool (jf (nd.map nl) set)) ?_
 repeat (first|refine ah ?_|refine aH ?_|refine aC ?_)
 refine bG aJ dI (hcl.mono fun r h=>h) ⟨.bool (jf (nd.map nl) set),rfl,rfl⟩ ?_
 rintro r hr -
 obtain rfl:r=.bool (jf (nd.map nl) set):=hr
 refine ⟨dE,_,_,_,_,_,dw,(by decide),aQ,?_⟩
 cases hcb:jf (nd.map nl) set with
 | false =>
  repeat (first|refine ah ?_|refine bZ ?_|refine ag ?_|refine aI ?_)
  refine ay ?_
  refine ⟨false,rfl,(fun h=>absurd h (by decide)),(fun hS=>?_)⟩
  rw [(jL (sD h.g hS.len)).2 (closedN_Y.2 hS.closed)] at hcb
  cases hcb
 | true =>
  have hf:kw (nd.map nl) set=true:=by
   cases hf:kw (nd.map nl) set with
   | true=>rfl
   | false=>unfold jf at hcb;rw [hf] at hcb;cases hcb
  have hl:set.length=nd.length:=by rw [<- (rV hf).1,hnl]
  have hC:=closedN_Y.1 ((jL hf).1 hcb)
  have o1:=(vw C set h.cok (by omega) (by omega)).mono (K':=fun r=>r=.int .i64 (wS C set nd.length)) (fun r h=>by rw [h,hl])
  simp only [I,Bl,hlc] at o1
  repeat (first|refine ah ?_|refine aG ?_|refine aH ?_|refine aC ?_)
  refine bG aJ dI (o1.mono fun r h=>h) ⟨.int .i64 (wS C set nd.length),rfl,rfl⟩ ?_
  rintro r hr -
  obtain rfl:r=.int .i64 (wS C set nd.length):=hr
  refine ⟨dE,_,_,_,_,_,dw,(by decide),aQ,?_⟩
  by_cases hc:wS C set nd.length<=B
  ·repeat (first|refine ah ?_|refine aG ?_|refine aH ?_|refine ag ?_|refine aK ?_|refine dU ?_|refine aC ?_)
   refine ay ?_
   exact ⟨true,rfl,fun _=>⟨hl,hC,hc⟩,fun _=>rfl⟩
  ·repeat (first|refine ah ?_|refine aG ?_|refine aH ?_|refine ag ?_|refine aK ?_|refine dU ?_|refine aC ?_)
   refine ay ?_
   exact ⟨false,rfl,(fun h=>absurd h (by decide)),(fun hS=>absurd hS.cost hc)⟩
structure BestS (W C:List Int) (nd:List (List Nat)) (B:Int) (k:Nat) (S:List Bool):Prop where
 sel:Sel C nd B S
 all:∀j,j<k->Sel C nd B (fB j nd.length)->rE W C nd.length (fB j nd.length) S=false
theorem BestS.most {W C:List Int} {nd:List (List Nat)} {B:Int} {S:List Bool} (h:BestS W C nd B (2 ^ nd.length) S) {X:List Bool} (hX:Sel C nd B X):rE W C nd.length X S=false:=by
 obtain ⟨b,hb,he⟩:=rG X
 rw [hX.len] at hb he
 have:=h.all b hb (by rw [he];exact hX)
 rwa [he] at this
theorem Sel.none {C:List Int} {nd:List (List Nat)} {B:Int} (hB:0<=B):Sel C nd B (List.replicate nd.length false) :=
 ⟨by simp,qU _,by rw [uZ];exact hB⟩
theorem BestS.keep {W C:List Int} {nd:List (List Nat)} {B:Int} {k:Nat} {S:List Bool} (h:BestS W C nd B k S) (h2:Sel C nd B (fB k nd.length)->rE W C nd.length (fB k nd.length) S=false):BestS W C nd B (k+1) S :=
 ⟨h.sel,fun j hj hs=>by
  by_cases e:j=k
  ·subst e;exact h2 hs
  ·exact h.all j (by omega) hs⟩
theorem BestS.take {W C:List Int} {nd:List (List Nat)} {B:Int} {k:Nat} {S:List Bool} (h:BestS W C nd B k S) (h1:Sel C nd B (fB k nd.length)) (h2:rE W C nd.length (fB k nd.length) S=true):BestS W C nd B (k+1) (fB k nd.length) :=
 ⟨h1,fun j hj hs=>by
  by_cases e:j=k
  ·subst e;exact BF _ _ _ _
  ·have h3:=h.all j (by omega) hs
   cases hx:rE W C nd.length (fB j nd.length) (fB k nd.length) with
   | false=>rfl
   | true =>
    rw [zn (by rw [hs.len,h1.len]) (by rw [h1.len,h.sel.len]) hx h2] at h3
    cases h3⟩
end Go.Proofs.Yteamkjblpglliaa
end
section
set_option linter.unusedSimpArgs false
set_option linter.unusedVariables false
namespace Go.Proofs.Yteamkjblpglliaa
open Go.RowKit Go.SL Go.HL
def stk (l:List Nat):HV:=.osl 1 l.length (HL.ints (nl l))
theorem Oa (l:List Nat) (x:Nat) (hl:l.length<=100000):HTI Try.prog 50 [.optr [stk l],.int .i64 x] [0] (fun r outs=>r=.tup []/\outs=[.optr [stk (l++[x])]]):=by
 have hln:=fH l
 have hlx:=fH (l++[x])
 have hap:HL.ints (nl l)++[HV.int .i64 (x:Int)]=HL.ints (nl (l++[x])):=by simp [HL.ints,nl]
 unfold stk
 refine HTI.of rfl VQ (Nat.le_of_ble_eq_true rfl) 2 [0] (by rfl) (by rfl) (⟨[(0,.pref 0 [] 0),(1,.int .i64 x)],[(0,.optr [.osl 1 l.length (HL.ints (nl l))])],1⟩:St) rfl ?_
 unfold c50
 refine ae ?_
 repeat (first|refine ah ?_|refine aH ?_|refine ag ?_|refine aC ?_|refine dn ?_|refine dF ?_|refine kK ?_|refine cZ fP rfl ?_)
 refine lJ (rs:=[0]) aJ jH ug ?_
 exact ⟨_,rfl,rfl,by simp,rfl,by rw [show (l++[x]).length=l.length+1 by simp];rfl⟩
theorem KN (x:Nat):HTI Try.prog 50 [.optr [.nils],.int .i64 x] [0] (fun r outs=>r=.tup []/\outs=[.optr [stk [x]]]):=by
 unfold stk
 refine HTI.of rfl VQ (Nat.le_of_ble_eq_true rfl) 2 [0] (by rfl) (by rfl) (⟨[(0,.pref 0 [] 0),(1,.int .i64 x)],[(0,.optr [.nils])],1⟩:St) rfl ?_
 unfold c50
 refine ae ?_
 repeat (first|refine ah ?_|refine aH ?_|refine ag ?_|refine aC ?_|refine dn ?_|refine dF ?_|refine Ul gU (by rfl) fP AY aaX (by omega) jT ?_|refine cZ fP rfl ?_)
 refine lJ (rs:=[0]) aJ jH ug ?_
 exact ⟨_,rfl,rfl,by simp,rfl,rfl⟩
theorem RG (l:List Nat) (x:Nat) (hl:l.length<=100000):HTI Try.prog 51 [.optr [stk (l++[x])]] [0] (fun r outs=>r=.int .i64 x/\outs=[.optr [stk l]]):=by
 have hln:=fH l
 have hlx:=fH (l++[x])
 unfold stk
 refine HTI.of rfl afu (Nat.le_of_ble_eq_true rfl) 1 [0] (by rfl) (by rfl) (⟨[(0,.pref 0 [] 0)],[(0,.optr [.osl 1 (l++[x]).length (HL.ints (nl (l++[x])))])],1⟩:St) rfl ?_
 unfold c51
 have hl1:(l++[x]).length=l.length+1:=by simp
 have hx:(l++[x]).getD l.length 0=x:=by simp
 rw [hl1]
 repeat (first|refine ah ?_|refine ag ?_|refine ak ?_|refine ae ?_)
 refine bQ bi bi (fun _ _ _=>False) ?_
 repeat (first|refine ah ?_|refine bY ?_|refine aH ?_|refine ag ?_|refine eH (by rfl) ?_|refine ik (by rfl) (by rfl) nV ?_|refine aC ?_|refine cZ fP rfl ?_)
 have hto:((l.length+1:Nat):Int) - 1=l.length:=by omega
 have hto2:(((l.length+1:Nat):Int) - 1).toNat=l.length:=by omega
 rw [hto2,hx]
 refine ak ?_
 refine LY 12 bi bi bi (fun _ _ _=>False) ?_
 simp only [List.take_succ_cons,List.take_zero,List.drop_succ_cons,List.drop_zero]
 repeat (first|refine ah ?_|refine aH ?_|refine ag ?_|refine eH (by rfl) ?_|refine ik (by rfl) (by rfl) nV ?_|refine aC ?_|refine Kz (by rfl) (by rfl) (by rfl) (by omega) bW gU ?_|refine cZ fP rfl ?_)
 have htk:(HL.ints (nl (l++[x]))).take (l.length*1)=HL.ints (nl l):=by simp [HL.ints,nl]
 rw [hto2]
 refine Fg 27 [0,3,16,27] (⟨[(0,.pref 0 [] 0),(3,.int .i64 x),(16,.pref 0 [] 0),(27,.ref 1 [] 1 0 l.length)],[(0,.optr [.dead]),(1,.osl 1 l.length (HL.ints (nl l)))],2⟩:St) rfl rfl rfl (by omega) (HL.ints_flat _) (by decide) (by rw [htk];rfl) ?_
 repeat (first|refine ah ?_|refine ag ?_|refine ak ?_|refine ae ?_|refine aC ?_|refine dn ?_|refine cZ fP rfl ?_)
 refine jV (rs:=[2,0]) aJ jH ug ?_
 exact ⟨_,rfl,rfl,by simp,rfl,rfl⟩
end Go.Proofs.Yteamkjblpglliaa
end
