import Derived.Test.YteamkjblpglliaaFlBad
import Derived.Test.YteamkjblpglliaaClClsd
import Derived.Test.YteamkjblpglliaaClBnd
import Derived.Test.YteamkjblpglliaaAbB
import Derived.Test.YteamkjblpglliaaHl5
section
set_option linter.unusedSimpArgs false
set_option linter.unusedVariables false
namespace Go.Proofs.Yteamkjblpglliaa
open Go.RowKit Go.SL Go.HL
end Go.Proofs.Yteamkjblpglliaa
end
section
set_option linter.unusedSimpArgs false
set_option linter.unusedVariables false
namespace Go.Proofs.Yteamkjblpglliaa
open Go.RowKit Go.SL Go.HL
theorem oP {nd:List (List Nat)} {bad:List Bool} (g:Gr nd bad) {X:List Bool} (hX:X.length=nd.length):jW (nd.map nl) X=true:=by
 unfold jW
 simp only [List.length_map,hX,decide_true,Bool.true_and,Bool.not_eq_true',List.any_eq_false]
 intro r hr
 obtain ⟨row,hrow,rfl⟩:=List.mem_map.1 hr
 simp only [Bool.not_eq_true,List.any_eq_false]
 intro x hx
 obtain ⟨y,hy,rfl⟩:=List.mem_map.1 hx
 obtain ⟨i,hi,rfl⟩:=Ed [] hrow
 have:=g.lt i y hy
 simp [oI]
 omega
end Go.Proofs.Yteamkjblpglliaa
end
section
set_option linter.unusedSimpArgs false
set_option linter.unusedVariables false
namespace Go.Proofs.Yteamkjblpglliaa
def KR (out:List Bool):Nat:=(out.filter (!·)).length
theorem Qz (out:List Bool):KR out<=out.length:=List.length_filter_le _ _
theorem Bh:∀ (out:List Bool) (i:Nat),i < out.length->out.getD i false=false->KR (out.set i true)+1=KR out
 | [],_,h,_=>absurd h (Nat.not_lt_zero _)
 | b :: out,0,_,h=>by
  have hb:b=false:=by simpa using h
  subst hb
  simp [KR]
 | b :: out,i+1,h,h2=>by
  have ih:=Bh out i (by simpa using h) (by simpa using h2)
  unfold KR at ih ⊢
  cases b <;> simp only [List.set_cons_succ,List.filter_cons,Bool.not_false,Bool.not_true,Bool.false_eq_true,if_true,if_false,List.length_cons] <;> omega
theorem zu (out:List Bool) (i u:Nat) (hi:i < out.length):(out.set i true).getD u false=if i=u then true else out.getD u false:=by
 simp only [List.getD_eq_getElem?_getD,List.getElem?_set]
 split
 ·rename_i h;subst h;simp [hi]
 ·rfl
def ni (g:List (List Int)) (X:List Bool):Prop:=∀u,X.getD u false=true->∀j∈g.getD u [],X.getD j.toNat false=true
def Nk (A B:List Bool):Prop:=∀u:Nat,A.getD u false=true->B.getD u false=true
structure yg (g:List (List Int)) (set out:List Bool):Prop where
 len:out.length=set.length
 sup:Nk set out
 closed:ni g out
 least:∀X,ni g X->Nk set X->Nk out X
structure HInv (g:List (List Int)) (set:List Bool) (m:Nat) (ex:Nat->Prop) (out:List Bool) (l:List Nat):Prop where
 len:out.length=set.length
 sup:∀u,u < m->set.getD u false=true->out.getD u false=true
 inl:∀u∈l,u < set.length/\out.getD u false=true
 ok:∀u,out.getD u false=true->u ∉ l->¬ ex u->∀j∈g.getD u [],out.getD j.toNat false=true
 least:∀X,ni g X->Nk set X->Nk out X
 few:2 * KR out+l.length<=2 * set.length
section
variable {g:List (List Int)} {set out:List Bool} {l:List Nat} {m i p:Nat} {ex:Nat->Prop}
theorem HInv.init (g:List (List Int)) (set:List Bool):HInv g set 0 (fun _=>False) (List.replicate set.length false) []:=by
 have hf:∀u:Nat,(List.replicate set.length false).getD u false=false:=fun u=>by
  rw [List.getD_eq_getElem?_getD,List.getElem?_replicate];split <;> rfl
 refine ⟨by simp,fun u hu=>absurd hu (Nat.not_lt_zero _),by simp,fun u hu=>?_,fun X _ _ u hu=>?_,?_⟩
 ·rw [hf] at hu;cases hu
 ·rw [hf] at hu;cases hu
 ·have:=Qz (List.replicate set.length false)
  simp at this ⊢
  omega
theorem HInv.visit (h:HInv g set m ex out l) (hi:i < set.length) (hu:out.getD i false=false) (hx:∀X,ni g X->Nk set X->X.getD i false=true):HInv g set m ex (out.set i true) (l ++ [i]):=by
 have hio:i < out.length:=by rw [h.len];exact hi
 have hg:∀u:Nat,(out.set i true).getD u false=if i=u then true else out.getD u false:=fun u=>zu out i u hio
 have up:∀u:Nat,out.getD u false=true->(out.set i true).getD u false=true:=fun u hu=>by
  rw [hg];split
  ·rfl
  ·exact hu
 refine ⟨by simp [h.len],fun u h1 h2=>up u (h.sup u h1 h2),fun u hul=>?_,fun u h1 h2 h3 j hj=>?_,fun X h1 h2 u h3=>?_,?_⟩
 ·rcases List.mem_append.1 hul with h1|h1
  ·exact ⟨(h.inl u h1).1,up u (h.inl u h1).2⟩
  ·obtain rfl:u=i:=by simpa using h1
   exact ⟨hi,by rw [hg];simp⟩
 ·simp only [List.mem_append,List.mem_singleton,not_or] at h2
  rw [hg,if_neg (fun e=>h2.2 e.symm)] at h1
  exact up _ (h.ok u h1 h2.1 h3 j hj)
 ·rw [hg] at h3
  split at h3
  ·rename_i e;rw [<- e];exact hx X h1 h2
  ·exact h.least X h1 h2 u h3
 ·have:=Bh out i hio hu
  have:=h.few
  rw [List.length_append]
  simp only [List.length_cons,List.length_nil]
  omega
theorem HInv.pop (h:HInv g set m (fun _=>False) out (l ++ [p])):HInv g set m (fun u=>u=p) out l/\p < set.length/\out.getD p false=true:=by
 have hp:=h.inl p (by simp)
 refine ⟨⟨h.len,h.sup,fun u hu=>h.inl u (by simp [hu]),fun u h1 h2 h3=>h.ok u h1 (by simp [h2,h3]) (fun h=>h),h.least,?_⟩,hp⟩
 have:=h.few
 rw [List.length_append] at this
 omega
theorem HInv.done (h:HInv g set m (fun u=>u=p) out l) (hr:∀j∈g.getD p [],out.getD j.toNat false=true):HInv g set m (fun _=>False) out l :=
 ⟨h.len,h.sup,h.inl,fun u h1 h2 _=>by
  by_cases e:u=p
  ·subst e;exact hr
  ·exact h.ok u h1 h2 e,h.least,h.few⟩
theorem HInv.next (h:HInv g set m ex out l) (hm:set.getD m false=true->out.getD m false=true):HInv g set (m+1) ex out l :=
 ⟨h.len,fun u h1 h2=>by
  by_cases e:u=m
  ·subst e;exact hm h2
  ·exact h.sup u (by omega) h2,h.inl,h.ok,h.least,h.few⟩
theorem HInv.hull (h:HInv g set set.length (fun _=>False) out []):yg g set out :=
 ⟨h.len,fun u hu=>by
  by_cases e:u < set.length
  ·exact h.sup u e hu
  ·exact absurd hu (by rw [List.getD_eq_getElem?_getD,List.getElem?_eq_none (by omega)];simp),fun u hu j hj=>h.ok u hu (by simp) (fun h=>h) j hj,h.least⟩
end
structure Swp (g:List (List Int)) (set out:List Bool):Prop where
 len:out.length=set.length
 sup:Nk set out
 least:∀X,ni g X->Nk set X->Nk out X
section
variable {g:List (List Int)} {set out:List Bool} {i j:Nat}
theorem Swp.init:Swp g set set:=⟨rfl,fun _ h=>h,fun _ _ h=>h⟩
theorem kS (hf:jW g out=true):jg g out=true <-> ni g out:=by
 obtain ⟨he,hin⟩:=rC hf
 unfold jg
 rw [hf,Bool.true_and,Bool.not_eq_true',List.any_eq_false]
 constructor
 ·intro h u hu j hj
  have hul:u < g.length:=by
   rw [he]
   apply Classical.byContradiction
   intro hn
   rw [List.getD_eq_getElem?_getD,List.getElem?_eq_none (by omega)] at hu;cases hu
  have:=h u (List.mem_range.2 hul)
  unfold lacks at this
  rw [hu,Bool.true_and] at this
  simp only [Bool.not_eq_true,List.any_eq_false] at this
  have:=this j hj
  simpa using this
 ·intro h u _
  unfold lacks
  cases hu:out.getD u false with
  | false=>simp
  | true =>
   simp only [Bool.true_and,Bool.not_eq_true,List.any_eq_false]
   intro j hj
   rw [h u hu j hj];decide
end
end Go.Proofs.Yteamkjblpglliaa
end
section
set_option linter.unusedSimpArgs false
set_option linter.unusedVariables false
namespace Go.Proofs.Yteamkjblpglliaa
open Go.RowKit Go.SL Go.HL
theorem closedN_Y {nd:List (List Nat)} {X:List Bool}:ni (nd.map nl) X <-> dG nd X:=by
 constructor
 ·intro h u hu j hj
  have:=h u hu j (by rw [dM];exact List.mem_map.2 ⟨j,hj,rfl⟩)
  simpa using this
 ·intro h u hu j hj
  rw [dM] at hj
  obtain ⟨k,hk,rfl⟩:=List.mem_map.1 hj
  simpa using h u hu k hk
theorem DD (n:Nat) (h:n<=9):∃q:Nat,q=2 ^ n/\IntKind.u64.wrap (n:Int)=n/\IntKind.i64.wrap (1 * 2 ^ (min n 64))=(q:Int)/\1<=q/\q<=512:=by
 refine ⟨2 ^ n,rfl,?_⟩
 have:∀m:Nat,m < 10->IntKind.u64.wrap (m:Int)=m/\IntKind.i64.wrap (1 * 2 ^ (min m 64))=((2 ^ m:Nat):Int)/\1<=2 ^ m/\2 ^ m<=512:=by decide +kernel
 exact this n (by omega)
end Go.Proofs.Yteamkjblpglliaa
end
section
set_option linter.unusedSimpArgs false
set_option linter.unusedVariables false
namespace Go.Proofs.Yteamkjblpglliaa
open Go.RowKit Go.SL Go.HL
structure Lm (W C:List Int) (nd:List (List Nat)) (num den:Int) (fl:List Int) (set:List Bool) (value:Int):Prop where
 wok:WOK (ik W C num den)
 max:nI (ik W C num den) nd (set.take nd.length)
 found:Found ((nd.length:Int)+2) nd.length ((nd.length:Int)+1) (iQ (ik W C num den) nd) fl set value
 val:value=jo (ik W C num den) nd.length - wS (ik W C num den) (set.take nd.length) nd.length
def l9 (W C:List Int) (nd:List (List Nat)) (B num den:Int) (S:List Bool):Int:=(wS (ik W C num den) S nd.length+num * B) / den
def L6 (W C:List Int) (nd:List (List Nat)) (B num den:Int) (r:HV):Prop:=∃fl set value,Lm W C nd num den fl set value /\
 r=.tup [.agg [.int .i64 num,.int .i64 den,.int .i64 (l9 W C nd B num den (set.take nd.length)),.osl 1 nd.length (HL.bools (set.take nd.length)),.osl 1 (iQ (ik W C num den) nd).length (HL.ints fl)],.int .i64 0]
theorem rQ {a b:Int} (h1:0<=a) (h2:a<=1048576) (h3:0<=b) (h4:b<=268435456):0<=a * b/\a * b<=281474976710656:=by
 refine ⟨Int.mul_nonneg h1 h3,?_⟩
 have:=Int.mul_le_mul h2 h4 h3 (by omega:(0:Int)<=1048576)
 omega
set_option maxHeartbeats 4000000 in
theorem vG {W C:List Int} {nd:List (List Nat)} {B:Int} (h:Pb W C nd B) (num den:Int) (hm:Mul num den) (hw:WOK (ik W C num den)):HT Try.prog 35 [.agg (jX W C nd B),.int .i64 num,.int .i64 den] (L6 W C nd B num den):=by
 have hsz:=h.g.size
 have hlw:=h.lw
 have hlc:=h.lc
 have hB:=h.b
 have hm2:=hm
 obtain ⟨hnum,hden⟩:=hm2
 have hnl:(nd.map nl).length=nd.length:=by simp
 have hL:=mQ W C num den
 rw [hlw] at hL
 have hwt:=tJ h num den hm
 have hmx:=Ih (ik W C num den) nd _ h.g hw (by omega)
 simp only [I,Gs,jX,hlw,hlc,hnl,hL] at hwt hmx
 have bb:=rQ hnum.1 hnum.2 hB.1 hB.2
 unfold L6 l9
 refine HT.ofC rfl YJ [6,7] rfl (Nat.le_of_ble_eq_true rfl) ?_
 unfold c35
 simp only [I,Gs,jX,aO,Nat.reduceAdd,hlw,hlc,hnl]
 repeat (first|refine ah ?_|refine ag ?_|refine ak ?_|refine ae ?_|refine bV ?_|refine eu ?_|refine gU gY ?_)
 refine bg aK dO (hwt) ?_
 rintro _ (⟨-,rfl⟩|⟨hx,-⟩)
 rotate_left
 ·exact absurd hw hx
 refine ⟨dF,_,_,_,_,_,dA,(by decide),aQ,?_⟩
 repeat (first|refine ah ?_|refine aF ?_|refine ag ?_|refine aY ?_|refine cu ?_|refine au ?_|refine ak ?_|refine ae ?_|refine aB ?_|refine aA ?_)
 refine bg aK dO (hmx) ?_
 rintro _ ⟨fl,set,value,rfl,hM,hF,hv⟩
 refine ⟨dF,_,_,_,_,_,dA,(by decide),aQ,?_⟩
 have hbd:=zt hw (set.take nd.length) nd.length
 repeat (first|refine ah ?_|refine aF ?_|refine ag ?_|refine aY ?_|refine bM ?_|refine cu ?_|refine au ?_|refine ak ?_|refine ae ?_|refine aB ?_|refine mf (by rfl) (by rfl) qh ?_|refine aA ?_)
 refine bg aK dO (Az (wS (ik W C num den) (set.take nd.length) nd.length+num * B) den (by omega) (by omega) (by omega) (by omega)) ?_
 rintro _ rfl
 refine ⟨dF,_,_,_,_,_,dA,(by decide),aQ,?_⟩
 repeat (first|refine ah ?_|refine ag ?_|refine dh ?_|refine pI pJ pO (by simp [jf]) ?_)
 refine ay ?_
 exact ⟨_,_,rfl,rfl,fl,set,value,⟨hw,hM,hF,hv⟩,rfl⟩
set_option maxHeartbeats 4000000 in
theorem sU {W C:List Int} {nd:List (List Nat)} {B:Int} (h:Pb W C nd B) (num den:Int) (e:Int) (he:(¬ Mul num den/\e=1)\/(Mul num den/\¬ WOK (ik W C num den)/\e=5)):HT Try.prog 35 [.agg (jX W C nd B),.int .i64 num,.int .i64 den] (fun r=>r=.tup [.agg [.int .i64 0,.int .i64 0,.int .i64 0,.nils,.nils],.int .i64 e]):=by
 have hsz:=h.g.size
 have hlw:=h.lw
 have hlc:=h.lc
 have hnl:(nd.map nl).length=nd.length:=by simp
 have he0:e≠0:=by omega
 have hwt:HT Try.prog 46 [.agg (jX W C nd B),.int .i64 num,.int .i64 den] (fun r=>r=.tup [.osl 1 0 [],.int .i64 e]):=by
  rcases he with ⟨h1,rfl⟩|⟨h1,h2,rfl⟩
  ·exact qV h num den h1
  ·refine (tJ h num den h1).mono ?_
   rintro _ (⟨hx,-⟩|⟨-,rfl⟩)
   ·exact absurd hx h2
   ·rfl
 simp only [I,Gs,jX,hlw,hlc,hnl] at hwt
 refine HT.ofC rfl YJ [6,7] rfl (Nat.le_of_ble_eq_true rfl) ?_
 unfold c35
 simp only [I,Gs,jX,aO,Nat.reduceAdd,hlw,hlc,hnl]
 repeat (first|refine ah ?_|refine ag ?_|refine ak ?_|refine ae ?_|refine bV ?_|refine eu ?_|refine gU gY ?_)
 refine bg aK dO (hwt) ?_
 rintro _ rfl
 refine ⟨dF,_,_,_,_,_,dA,(by decide),aQ,?_⟩
 repeat (first|refine ah ?_|refine ag ?_|refine aY ?_|refine cu ?_|refine ax ?_|refine ak ?_|refine ae ?_|refine dh ?_|refine pI pJ pO (by simp [jf]) ?_)
 refine ay ?_
 exact ⟨_,_,rfl,rfl,rfl⟩
def Ci (W C:List Int) (nd:List (List Nat)) (B num den:Int) (r:HV):Prop:=∃fl set value,Lm W C nd num den fl set value /\
 r=.tup [.int .i64 (l9 W C nd B num den (set.take nd.length)),I fl,.int .i64 0]
set_option maxHeartbeats 4000000 in
theorem Bc {W C:List Int} {nd:List (List Nat)} {B:Int} (h:Pb W C nd B) (num den:Int) (hm:Mul num den) (hw:WOK (ik W C num den)):HT Try.prog 11 [.agg (jX W C nd B),.int .i64 num,.int .i64 den] (Ci W C nd B num den):=by
 have hsz:=h.g.size
 have hlw:=h.lw
 have hlc:=h.lc
 have hnl:(nd.map nl).length=nd.length:=by simp
 have hav:=sF h
 have hdo:=vG h num den hm hw
 simp only [I,Gs,jX,hlw,hlc,hnl] at hav hdo
 unfold Ci
 refine HT.of rfl aeb (Nat.le_of_ble_eq_true rfl) ?_
 unfold c11
 simp only [I,Gs,jX,aO,Nat.reduceAdd,hlw,hlc,hnl]
 repeat (first|refine ah ?_|refine ag ?_|refine ak ?_|refine ae ?_|refine fM rfl (by rfl) gY ?_|refine bV ?_|refine eu ?_)
 refine bg aK dO (hav) ?_
 rintro _ rfl
 refine ⟨dF,_,_,_,_,_,dA,(by decide),aQ,?_⟩
 repeat (first|refine ah ?_|refine ag ?_|refine au ?_|refine ak ?_|refine ae ?_|refine aB ?_|refine fD (by rfl) ?_|refine bV ?_)
 refine bg aK dO (hdo) ?_
 rintro _ ⟨fl,set,value,hD,rfl⟩
 refine ⟨dF,_,_,_,_,_,dA,(by decide),aQ,?_⟩
 repeat (first|refine ah ?_|refine ag ?_|refine cu ?_|refine ak ?_|refine dh ?_|refine gU gY ?_)
 have hE:(stripL (HL.bools (set.take nd.length)),stripL (HL.ints fl))=(HL.bools (set.take nd.length),HL.ints fl):=by rw [HL.bools_strip,HL.ints_strip]
 refine kF 224 [9,10] (⟨[(9,.ptr [.int .i64 num,.int .i64 den,.int .i64 (l9 W C nd B num den (set.take nd.length)),.sl nd.length (HL.bools (set.take nd.length)),.sl (iQ (ik W C num den) nd).length (HL.ints fl)] 0),(10,.int .i64 0)],[],0⟩:St) (congrArg (fun p:List HV×List HV=>(⟨[(9,.ptr [.int .i64 num,.int .i64 den,.int .i64 (l9 W C nd B num den (set.take nd.length)),.sl nd.length p.1,.sl (iQ (ik W C num den) nd).length p.2] 0),(10,.int .i64 0)],[],0⟩:St)) hE) ?_
 skip
 refine bU aU aU (fun _ _ _=>False) ?_
 repeat (first|refine ah ?_|refine bK (by rfl) aV mJ ?_|refine ag ?_|refine mY (by rfl) (by rfl) ?_)
 refine ay ?_
 refine ⟨fl,set,value,hD,?_⟩
 rw [hD.found.flow.len]
 rfl
end Go.Proofs.Yteamkjblpglliaa
end
section
set_option linter.unusedSimpArgs false
set_option linter.unusedVariables false
namespace Go.HL
open Go.RowKit
def abm:Nat->HV->HV
 | z+1,.nils=>.osl (z+1) 0 []
 | _,v=>v
def mD:List Nat->List HV->List HV
 | z :: zs,v :: vs=>abm z v :: mD zs vs
 | [],vs=>vs
 | _ :: _,[]=>[]
theorem OG {F:Nat->Prop} {h:Hp} {R:HV->Value->Prop} {vs:List HV} {rvs:List Value} {fs:List Nat} (o:OW F h R vs rvs fs):∀zs,OW F h R (mD zs vs) rvs fs:=by
 have other:∀ {z:Nat} {v:HV},v≠.nils->abm z v=v:=by
  intro z v h
  cases z <;> cases v <;> first|rfl|exact absurd rfl h
 induction o with
 | nil=>intro zs;cases zs <;> exact .nil
 | @leaf R v rv r rr fs a b c d e f g h ih =>
  intro zs
  cases zs with
  | nil=>exact .leaf a b c d e f g h
  | cons z zs =>
   rw [mD,other (by intro e;subst e;cases a)]
   exact .leaf a b c d e f g (ih zs)
 | int h ih=>intro zs;cases zs with
  | nil=>exact .int h
  | cons z zs=>rw [mD,other (by simp)];exact .int (ih zs)
 | bool h ih=>intro zs;cases zs with
  | nil=>exact .bool h
  | cons z zs=>rw [mD,other (by simp)];exact .bool (ih zs)
 | str h ih=>intro zs;cases zs with
  | nil=>exact .str h
  | cons z zs=>rw [mD,other (by simp)];exact .str (ih zs)
 | nils h ih=>intro zs;cases zs with
  | nil=>exact .nils h
  | cons z zs=>cases z with
   | zero=>exact .nils (ih zs)
   | succ z=>exact .osl0 (ih zs)
 | nilp h ih=>intro zs;cases zs with
  | nil=>exact .nilp h
  | cons z zs=>rw [mD,other (by simp)];exact .nilp (ih zs)
 | nilf h ih=>intro zs;cases zs with
  | nil=>exact .nilf h
  | cons z zs=>rw [mD,other (by simp)];exact .nilf (ih zs)
 | dead h ih=>intro zs;cases zs with
  | nil=>exact .dead h
  | cons z zs=>rw [mD,other (by simp)];exact .dead (ih zs)
 | sl0 h ih=>intro zs;cases zs with
  | nil=>exact .sl0 h
  | cons z zs=>rw [mD,other (by simp)];exact .sl0 (ih zs)
 | sl a b c d e h _ ih=>intro zs;cases zs with
  | nil=>exact .sl a b c d e h
  | cons z zs=>rw [mD,other (by simp)];exact .sl a b c d e (ih zs)
 | osl0 h ih=>intro zs;cases zs with
  | nil=>exact .osl0 h
  | cons z zs=>rw [mD,other (by simp)];exact .osl0 (ih zs)
 | osl a b c d e f g h _ ih=>intro zs;cases zs with
  | nil=>exact .osl a b c d e f g h
  | cons z zs=>rw [mD,other (by simp)];exact .osl a b c d e f g (ih zs)
 | ptr a b c d h _ ih=>intro zs;cases zs with
  | nil=>exact .ptr a b c d h
  | cons z zs=>rw [mD,other (by simp)];exact .ptr a b c d (ih zs)
 | optr a b h _ ih=>intro zs;cases zs with
  | nil=>exact .optr a b h
  | cons z zs=>rw [mD,other (by simp)];exact .optr a b (ih zs)
 | agg a h _ ih=>intro zs;cases zs with
  | nil=>exact .agg a h
  | cons z zs=>rw [mD,other (by simp)];exact .agg a (ih zs)
 | tup a h _ ih=>intro zs;cases zs with
  | nil=>exact .tup a h
  | cons z zs=>rw [mD,other (by simp)];exact .tup a (ih zs)
 | fn a h _ ih=>intro zs;cases zs with
  | nil=>exact .fn a h
  | cons z zs=>rw [mD,other (by simp)];exact .fn a (ih zs)
theorem Weak.ownBox {s:St} (id:Nat) (zs:List Nat) {cs:List HV} (hid:s.M id=.optr cs):Weak s ⟨s.sl.map fun p=>(p.1,p.2.kill id 0),(id,.optr (mD zs cs)) :: s.st,s.nx⟩:=by
 intro E a w ⟨loc,fp,hr⟩
 have hM:∀k,(⟨s.sl.map fun p=>(p.1,p.2.kill id 0),(id,.optr (mD zs cs)) :: s.st,s.nx⟩:St).M k=if id=k then .optr (mD zs cs) else s.M k:=fun k=>rfl
 obtain ⟨-,hk⟩:=hr.kill id 0
 refine ⟨loc,fp,⟨hr.below,hr.base,hr.size,fun k hkd=>?_,fun k hkd=>?_,fun k hkn=>?_,hr.nodup,hr.apart,hr.fresh,fun t=>?_,hr.defers⟩⟩
 ·rw [hM] at hkd ⊢
  by_cases e:id=k
  ·subst e
   rw [if_pos rfl]
   have htr:=hr.tree id (by rw [hid];simp)
   rw [hid] at htr
   generalize hl:loc id=lv at htr ⊢
   generalize hf:fp id=fs at htr ⊢
   cases htr with
   | leaf _ _ h3=>exact absurd rfl (h3 _)
   | optr h1 h2 h3=>exact .optr h1 (OG h2 zs) h3
  ·rw [if_neg e] at hkd ⊢
   exact hr.tree k hkd
 ·rw [hM] at hkd
  by_cases e:id=k
  ·subst e;rw [if_pos rfl] at hkd;cases hkd
  ·rw [if_neg e] at hkd;exact hr.gone k hkd
 ·rw [hM]
  by_cases e:id=k
  ·subst e
   have:=hr.new id hkn
   rw [hid] at this;cases this
  ·rw [if_neg e];exact hr.new k hkn
 ·have hS:(⟨s.sl.map fun p=>(p.1,p.2.kill id 0),(id,.optr (mD zs cs)) :: s.st,s.nx⟩:St).S t=(s.S t).kill id 0:=by
   show aW t (s.sl.map _)=_
   unfold St.S
   generalize s.sl=l
   induction l with
   | nil=>rfl
   | cons p r ih =>
    obtain ⟨k,v⟩:=p
    simp only [List.map_cons,aW]
    split
    ·rfl
    ·exact ih
  rw [hS]
  refine (hk t).stable (fun _ _=>rfl) (fun _ h=>⟨h,rfl⟩) ?_
  rintro v rv ⟨hv,hc⟩
  obtain ⟨i,hi,hilt⟩:=hv.isRef
  by_cases e:i=id
  ·subst e
   cases v <;> simp only [fG,Option.some.injEq,reduceCtorEq] at hi
   ·subst hi
    rename_i p sz off n
    obtain ⟨a1,a2,a0,a4,a3⟩:=hv
    have hp:p=[]:=by
     have:=hc _ p (.inl ⟨_,_,_,rfl⟩)
     cases p with
     | nil=>rfl
     | cons=>exact absurd ⟨rfl,by simp⟩ this
    subst hp
    have:s.M _=.optr cs:=hid
    exact absurd this (a4 cs)
   ·subst hi
    rename_i p off
    obtain ⟨a1,a2,a0,a3⟩:=hv
    have hp:p=[]:=by
     have:=hc _ p (.inr ⟨_,rfl⟩)
     cases p with
     | nil=>rfl
     | cons=>exact absurd ⟨rfl,by simp⟩ this
    subst hp
    refine ⟨a1,a2,a0,fun _=>?_⟩
    have h1:s.M _=.optr cs:=hid
    exact a3 (by show isNode (s.M _);rw [h1];trivial)
  ·exact hv.stay hr (Nat.le_refl _) hi (by rw [hM,if_neg (fun h=>e h.symm)]) rfl (fun _ _=>rfl)
theorem Jm {P:Program} {k:List HI} {Q:HE->St->Prop} {x:HCode} {sl st:List (Nat×HV)} {nx:Nat} (id:Nat) (zs:List Nat) (keep:List Nat) {cs:List HV} (s0:St) (hid:aW id st=.optr cs)
  (hn:norm2 keep ⟨sl.map fun p=>(p.1,p.2.kill id 0),(id,.optr (mD zs cs)) :: st,nx⟩=s0) (h:hx P (.c x :: k) Q s0):hx P (.c x :: k) Q ⟨sl,st,nx⟩ :=
 lI ((Weak.ownBox (s:=⟨sl,st,nx⟩) id zs hid).trans (hn ▸ Weak.norm2 keep _)) h
end Go.HL
end
