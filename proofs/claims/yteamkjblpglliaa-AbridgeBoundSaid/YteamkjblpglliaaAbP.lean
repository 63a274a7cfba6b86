import Derived.Test.YteamkjblpglliaaAbE
import Derived.Test.YteamkjblpglliaaAbO
import Derived.Test.YteamkjblpglliaaAbN
import Derived.Test.YteamkjblpglliaaHl5
import Derived.Test.YteamkjblpglliaaAbB
import Derived.Test.YteamkjblpglliaaFlBad
import Derived.Test.YteamkjblpglliaaHlDn
import Derived.Test.YteamkjblpglliaaHlRo
section
set_option linter.unusedSimpArgs false
set_option linter.unusedVariables false
namespace Go.Proofs.Yteamkjblpglliaa
open Go.RowKit Go.SL Go.HL
theorem Hf {W C:List Int} {nd:List (List Nat)} {B num den:Int} {S X:List Bool} (hlw:W.length=nd.length) (hm:Mul num den) (hS:nI (ik W C num den) nd S) (hX:Sel C nd B X):wS W X nd.length<=l9 W C nd B num den S:=by
 have h1:=hS.most X hX.len hX.closed
 rw [lL _ _ _ _ _ _ (by omega)] at h1
 have h2:num * wS C X nd.length<=num * B:=Int.mul_le_mul_of_nonneg_left hX.cost hm.1.1
 refine (Int.le_ediv_iff_mul_le (by have:=hm.2.1;omega)).2 ?_
 rw [Int.mul_comm];omega
theorem Lst.ge {W C:List Int} {nd:List (List Nat)} {B:Int} {s:Se} (h:Lst W C nd B s) (hlw:W.length=nd.length) {X:List Bool} (hX:Sel C nd B X):wS W X nd.length<=s.value:=by
 rw [h.val];exact Hf hlw h.mul h.max hX
def Fv (W C:List Int) (n:Nat) (s:Se) (b:Bool):Sn:=⟨s.best,wS W s.best n,wS C s.best n,s.num,s.den,s.flow,s.value,b⟩
theorem EI {W C:List Int} {n:Nat} {s:Se} {b:Bool} (h:s.best.length=n):JS (Fv W C n s b)=wP W C n s b:=by
 unfold JS Fv wP Bl I;rw [h]
theorem Lst.bound {W C:List Int} {nd:List (List Nat)} {bad:List Bool} {B:Int} {s:Se} (g:Gr nd bad) (h:Lst W C nd B s) {x y:Int} (hB:BoundR (ik W C s.num s.den) nd s.flow x y):y=0/\x=wS (ik W C s.num s.den) s.set nd.length:=by
 obtain ⟨set,value,hD,hset⟩:=h.dual
 obtain ⟨h1,h2⟩:=GV g h.wok hD.found.flow hB
 refine ⟨h1,?_⟩
 have h3:=hD.found.val
 have h4:=hD.val
 rw [hset]
 have:((nd.length:Int)).toNat=nd.length:=by omega
 rw [this] at h3
 omega
theorem SolS.check {W C:List Int} {nd:List (List Nat)} {B steps:Int} {s:Se} {b:Bool} {bad:List Bool} (g:Gr nd bad) (h:SolS W C nd B steps s b) {e:Int} (he:QD W C nd B (Fv W C nd.length s b) e):e=0:=by
 have hA:Qy W C nd B (Fv W C nd.length s b):=⟨h.sel,rfl,rfl,h.lst.mul,h.lst.wok⟩
 rcases he with ⟨hn,_⟩|⟨_,x,y,hB,hv⟩
 ·exact absurd hA hn
 ·obtain ⟨rfl,rfl⟩:=h.lst.bound g hB
  rcases hv with ⟨_,_,h0⟩|⟨hn,_⟩
  ·exact h0
  ·exact absurd ⟨rfl,h.lst.val.symm⟩ hn
theorem SolS.unique {W C:List Int} {nd:List (List Nat)} {B steps:Int} {s:Se} {S:List Bool} (h:SolS W C nd B steps s true) (hS:Sel C nd B S) (hb:∀X,Sel C nd B X->lU W C nd.length X S=false):s.best=S :=
 NI (by rw [h.sel.len,hS.len]) (hb _ h.sel) (h.best rfl _ hS)
theorem zU {W C:List Int} {n:Nat} {X Y:List Bool} (h:lU W C n X Y=false):wS W X n<=wS W Y n:=by
 unfold lU at h
 by_cases e:wS W X n=wS W Y n
 ·omega
 ·rw [if_neg e] at h;simp only [decide_eq_false_iff_not] at h;omega
def Nl:List Int:=[5,4,3]
def JW:List Int:=[4,3,2]
def ndEx:List (List Nat):=[[2],[],[]]
theorem pbEx:Pb Nl JW ndEx 5:=by
 refine ⟨rfl,rfl,fun i=>?_,fun i=>?_,by decide,⟨by decide,by decide,fun i j hj=>?_,fun i=>?_⟩⟩
 ·match i with
  | 0=>decide
  | 1=>decide
  | 2=>decide
  | i+3=>simp [Nl]
 ·match i with
  | 0=>decide
  | 1=>decide
  | 2=>decide
  | i+3=>simp [JW]
 ·match i with
  | 0=>simp [ndEx] at hj;subst hj;decide
  | 1=>simp [ndEx] at hj
  | 2=>simp [ndEx] at hj
  | i+3=>simp [ndEx] at hj
 ·match i with
  | 0=>simp [ndEx]
  | 1=>simp [ndEx]
  | 2=>simp [ndEx]
  | i+3=>simp [ndEx]
theorem closedEx {a b c:Bool}:dG ndEx [a,b,c] <-> (a=true->c=true):=by
 constructor
 ·intro h ha
  exact h 0 (by simpa using ha) 2 (by decide)
 ·intro h u hu j hj
  match u with
  | 0=>simp [ndEx] at hj;subst hj;simpa using h (by simpa using hu)
  | 1=>simp [ndEx] at hj
  | 2=>simp [ndEx] at hj
  | u+3=>simp [ndEx] at hj
theorem O3:Sel JW ndEx 5 [false,true,true]:=⟨rfl,closedEx.2 (by simp),by decide⟩
theorem Ql {S:List Bool} (hS:Sel JW ndEx 5 S) (hb:lU Nl JW ndEx.length [false,true,true] S=false):S=[false,true,true]:=by
 have hl:=hS.len
 have hc:=hS.cost
 have hcl:=hS.closed
 match S,hl with
 | [a,b,c],_ =>
  rw [closedEx] at hcl
  cases a <;> cases b <;> cases c <;> first|rfl|(exfalso;revert hc;decide)|(exfalso;revert hb;decide)|(exfalso;revert hcl;decide)
theorem UC {S:List Bool} (hS:nI (ik Nl JW 1 1) ndEx S):l9 Nl JW ndEx 5 1 1 S=8:=by
 have h1:=hS.most [true,true,true] rfl (closedEx.2 (by simp))
 have hl:=hS.len
 match S,hl with
 | [a,b,c],_=>cases a <;> cases b <;> cases c <;> first|rfl|(exfalso;revert h1;decide)
end Go.Proofs.Yteamkjblpglliaa
end
section
set_option linter.unusedSimpArgs false
set_option linter.unusedVariables false
namespace Go.Proofs.Yteamkjblpglliaa
open Go.RowKit Go.SL Go.HL
set_option maxHeartbeats 16000000 in
theorem ht_lives29:HT Try.prog 18 [] (fun r=>r=.bool true):=by
 have hso:=nV pbEx 1024 (by omega) (by omega)
 have hw1:WOK (ik Nl JW 1 1):=fun i=>by
  match i with
  | 0=>decide
  | 1=>decide
  | 2=>decide
  | i+3=>simp [ik,Nl]
 have hdu:=Bc pbEx 1 1 ⟨by omega,by omega⟩ hw1
 have hpb:jX Nl JW ndEx 5=[.sl 3 [.int .i64 5,.int .i64 4,.int .i64 3],.sl 3 [.int .i64 4,.int .i64 3,.int .i64 2],.sl 3 [.sl 1 [.int .i64 2],.sl 0 [],.sl 0 []],.int .i64 5]:=rfl
 rw [hpb] at hso hdu
 refine HT.of rfl aey (Nat.le_of_ble_eq_true rfl) ?_
 unfold c18
 simp only [aO,Nat.reduceAdd]
 refine ak ?_
 refine ae ?_
 repeat (first|refine ah ?_|refine ag ?_)
 refine ak ?_
 refine ae ?_
 repeat (first|refine ag ?_|refine dh ?_|refine dS ?_|refine gU gY ?_|refine FB gY aK di zJ (by simp) (by rfl) (by rfl) (by rfl) ?_|refine pI pJ pO (by simp [jf]) ?_)
 refine jF 96 [1] _ rfl rfl ?_
 refine La 0 _ [1] (⟨[(1,.pref 0 [] 0)],[(0,.optr [.sl 3 [.int .i64 5,.int .i64 4,.int .i64 3],.sl 3 [.int .i64 4,.int .i64 3,.int .i64 2],.sl 3 [.sl 1 [.int .i64 2],.sl 0 [],.sl 0 []],.int .i64 5])],1⟩:St) (fun F h rvs fs o=>OB o) rfl rfl ?_
 repeat (first|refine ak ?_|refine ae ?_|refine bV ?_)
 refine bg aK dO (hso) ?_
 rintro _ ⟨s,b,rfl,hS⟩
 obtain rfl:b=true:=hS.enough (by omega) (by decide)
 have hbs:s.best=[false,true,true]:=Ql hS.sel (hS.best rfl _ O3)
 have hv7:7<=s.value:=hS.lst.ge rfl O3
 have hck:=(DW pbEx (Fv Nl JW ndEx.length s true) (by show s.best.length<=_;rw [hbs];decide)).mono (K':=fun r=>r=.int .i64 0) (by
  rintro _ ⟨e,rfl,he⟩
  rw [hS.check pbEx.g he])
 rw [EI (by rw [hbs];rfl),hpb] at hck
 have hw7:wS Nl [false,true,true] ndEx.length=7:=by decide
 have hc5:wS JW [false,true,true] ndEx.length=5:=by decide
 unfold wP at hck ⊢
 rw [hbs,hw7,hc5] at hck ⊢
 have hl3:ndEx.length=3:=rfl
 rw [hl3] at hck ⊢
 have hbo:HL.bools [false,true,true]=[.bool false,.bool true,.bool true]:=rfl
 rw [hbo] at hck ⊢
 have hss:=yx [false,true,true] [false,true,true] (by decide) (by decide)
 rw [decide_eq_true rfl] at hss
 have hsB:Bl [false,true,true]=.sl 3 [.bool false,.bool true,.bool true]:=rfl
 rw [hsB] at hss
 refine ⟨dF,_,_,_,_,_,dA,(by decide),aQ,?_⟩
 repeat (first|refine ah ?_|refine ag ?_|refine cu ?_|refine ak ?_|refine ae ?_|refine bV ?_|refine dh ?_|refine gU gY ?_)
 refine bg aK dO (hdu) ?_
 rintro _ ⟨fl,set,value,hD,rfl⟩
 rw [UC hD.max]
 simp only [I]
 refine ⟨dF,_,_,_,_,_,dA,(by decide),aQ,?_⟩
 repeat (first|refine ah ?_|refine aH ?_|refine aF ?_|refine ag ?_|refine aX ?_|refine aJ ?_|refine cu ?_|refine ak ?_|refine ae ?_|refine aA ?_|refine dS ?_)
 refine bg aK dO (hss) ?_
 rintro _ rfl
 refine ⟨dF,_,_,_,_,_,dA,(by decide),aQ,?_⟩
 repeat (first|refine ah ?_|refine aH ?_|refine aF ?_|refine aX ?_|refine aJ ?_|refine dE ?_|refine aA ?_|refine bV ?_)
 refine bg aK dO (hck) ?_
 rintro _ rfl
 refine ⟨dF,_,_,_,_,_,dA,(by decide),aQ,?_⟩
 repeat (first|refine ah ?_|refine aH ?_|refine ag ?_|refine aX ?_|refine aJ ?_)
 refine ay ?_
 rfl
end Go.Proofs.Yteamkjblpglliaa
end
section
set_option linter.unusedSimpArgs false
set_option linter.unusedVariables false
namespace Go.HL
open Go.RowKit
section
variable {P:Program} {E:Fr} {N fr:Nat} {sl st:Lk} {loc:Nat->Value} {fp:Nat->List Nat} {a:Act} {w:World}
end
end Go.HL
end
section
set_option linter.unusedSimpArgs false
set_option linter.unusedVariables false
namespace Go.Proofs.Yteamkjblpglliaa
open Go.RowKit Go.SL Go.HL
structure Pre (W C:List Int) (nd:List (List Nat)) (n i:Nat):Prop where
 lw:W.length=i
 lc:C.length=i
 ln:nd.length=i
 w:∀k,0<=W.getD k 0/\W.getD k 0<=14
 c:∀k,0<=C.getD k 0/\C.getD k 0<=11
 lt:∀u j,j∈nd.getD u []->j < n
 sorted:∀u,(nd.getD u []).Pairwise (· < ·)
theorem Pre.nil (n:Nat):Pre [] [] [] n 0:=⟨rfl,rfl,rfl,by simp,by simp,by simp,by simp⟩
theorem jB {α:Type} (l:List α) (x d:α) (k:Nat):(l ++ [x]).getD k d=l.getD k d\/(l ++ [x]).getD k d=x\/(l ++ [x]).getD k d=d:=by
 by_cases h:k < l.length
 ·left;rw [List.getD_eq_getElem?_getD,List.getElem?_append_left h,List.getD_eq_getElem?_getD]
 ·by_cases h2:k=l.length
  ·subst h2;right;left;simp
  ·right;right;rw [List.getD_eq_getElem?_getD,List.getElem?_eq_none (by simp;omega)];rfl
theorem Pre.snoc {W C:List Int} {nd:List (List Nat)} {n i:Nat} (h:Pre W C nd n i) {x y:Nat} {row:List Nat} (hx:x < 14) (hy:y < 11) (h1:∀j∈row,j < n) (h2:row.Pairwise (· < ·)):Pre (W ++ [(x:Int)]) (C ++ [(y:Int)]) (nd ++ [row]) n (i+1):=by
 refine ⟨by simp [h.lw],by simp [h.lc],by simp [h.ln],fun k=>?_,fun k=>?_,fun u j hj=>?_,fun u=>?_⟩
 ·rcases jB W (x:Int) 0 k with e|e|e <;> rw [e]
  ·exact h.w k
  ·omega
  ·omega
 ·rcases jB C (y:Int) 0 k with e|e|e <;> rw [e]
  ·exact h.c k
  ·omega
  ·omega
 ·rcases jB nd row [] u with e|e|e <;> rw [e] at hj
  ·exact h.lt u j hj
  ·exact h1 j hj
  ·cases hj
 ·rcases jB nd row [] u with e|e|e <;> rw [e]
  ·exact h.sorted u
  ·exact h2
  ·exact .nil
theorem Pre.pb {W C:List Int} {nd:List (List Nat)} {n:Nat} (h:Pre W C nd n n) (hn:n<=256) {B:Nat} (hB:B < 40):Pb W C nd (B:Int) :=
 ⟨by rw [h.lw,h.ln],by rw [h.lc,h.ln],fun i=>⟨(h.w i).1,by have:=(h.w i).2;omega⟩,fun i=>⟨(h.c i).1,by have:=(h.c i).2;omega⟩,by omega,⟨by rw [h.ln];exact hn,by simp,fun u j hj=>by rw [h.ln];exact h.lt u j hj,h.sorted⟩⟩
def U0 (W C:List Int) (nd:List (List Nat)) (B:Int) (n:Nat):List HV:=[.osl 1 n (HL.ints W),.osl 1 n (HL.ints C),.osl 1 n (gm nd),.int .i64 B]
structure RowU (n k:Nat) (row:List Nat):Prop where
 lt:∀j∈row,j < k
 sorted:row.Pairwise (· < ·)
 len:row.length<=k
theorem RowU.snoc {n k:Nat} {row:List Nat} (h:RowU n k row):RowU n (k+1) (row ++ [k]) :=
 ⟨fun j hj=>by
  rcases List.mem_append.1 hj with hj|hj
  ·have:=h.lt j hj;omega
  ·simp at hj;omega,List.pairwise_append.2 ⟨h.sorted,by simp,fun a ha b hb=>by simp at hb;subst hb;exact h.lt a ha⟩,by simp;exact h.len⟩
theorem RowU.up {n k:Nat} {row:List Nat} (h:RowU n k row):RowU n (k+1) row:=⟨fun j hj=>by have:=h.lt j hj;omega,h.sorted,by have:=h.len;omega⟩
set_option maxHeartbeats 4000000 in
theorem wz (l:List Int) (hl:l.length<=9223372036854775807) (hr:∀k,k < l.length -> -9223372036854775808<=l.getD k 0/\l.getD k 0<=9223372036854775807) (K0:HV->Prop)
  (hend:∀ (W C:List Int) (nd:List (List Nat)) (n B:Nat),Pre W C nd n n->n < 10->B < 40->hx Try.prog [.c Pj] (finish [2] (KC [.c 2 true 4] K0)) ⟨[(2,.pref 0 [] 0),(4,.pref 1 [] 0)],[(0,.optr [.nils,.nils,.nils,.int .i64 0]),(1,.optr (U0 W C nd B n))],2⟩):HT Try.prog 9 [I l] K0:=by
 refine HT.ofC rfl fc9 [2] rfl (Nat.le_of_ble_eq_true rfl) ?_
 unfold c9
 simp only [I,aO,Nat.reduceAdd]
 repeat (first|refine ah ?_|refine ag ?_|refine ak ?_|refine ae ?_|refine gU gY ?_)
 refine bg aK dO (zY l 0 10 (by omega) (by omega) (by omega) hl hr) ?_
 rintro _ ⟨n,rfl,hn⟩
 refine ⟨dF,_,_,_,_,_,dA,(by decide),aQ,?_⟩
 repeat (first|refine ah ?_|refine ag ?_|refine ak ?_|refine ae ?_)
 refine bg aK dO (zY l 1 40 (by omega) (by omega) (by omega) hl hr) ?_
 rintro _ ⟨B,rfl,hB⟩
 refine ⟨dF,_,_,_,_,_,dA,(by decide),aQ,?_⟩
 repeat (first|refine ah ?_|refine ag ?_|refine ak ?_|refine ae ?_|refine aC ?_|refine dh ?_|refine gU gY ?_|refine pI pJ pO (by simp [jf]) ?_)
 refine Jm 112 [1,1,1] [0,2,3,4,5] (⟨[(0,.sl l.length (HL.ints l)),(2,.pref 0 [] 0),(3,.int .i64 n),(4,.pref 1 [] 0),(5,.int .i64 0)],[(0,.optr [.nils,.nils,.nils,.int .i64 0]),(1,.optr [.osl 1 0 [],.osl 1 0 [],.osl 1 0 [],.int .i64 B])],2⟩:St) rfl rfl ?_
 refine bH [0,2,3,4,5] (fun s:Nat×List Int×List Int×List (List Nat)=>s.1<=n/\Pre s.2.1 s.2.2.1 s.2.2.2 n s.1)
  (fun s=>⟨[(0,.sl l.length (HL.ints l)),(2,.pref 0 [] 0),(3,.int .i64 n),(4,.pref 1 [] 0),(5,.int .i64 s.1)],[(0,.optr [.nils,.nils,.nils,.int .i64 0]),(1,.optr (U0 s.2.1 s.2.2.1 s.2.2.2 B s.1))],2⟩) (fun s=>n - s.1) (0,[],[],[]) ⟨by omega,Pre.nil n⟩ rfl ?_
 rintro ⟨i,W,C,nd⟩ ⟨hi,hP⟩
 simp only at hi hP ⊢
 unfold U0
 have hWl:=hP.lw
 have hCl:=hP.lc
 have hnl:=hP.ln
 by_cases hin:i < n
 ·have hat1:=zY l (2+2 * i) 14 (by omega) (by omega) (by omega) hl hr
  have hat2:=zY l (3+2 * i) 11 (by omega) (by omega) (by omega) hl hr
  rw [show ((2+2 * i:Nat):Int)=2+2 * (i:Int) by omega] at hat1
  rw [show ((3+2 * i:Nat):Int)=3+2 * (i:Int) by omega] at hat2
  repeat (first|refine ah ?_|refine ag ?_|refine az ?_|refine ax ?_|refine ak ?_|refine ae ?_|refine aC ?_|refine aB ?_)
  refine Ec [] [] aU aU (fun _ _ r=>∃y:Nat,r=.int .i64 y/\y < 14) (by simp) (by simp) ?_ (by rintro _ _ _ ⟨y,rfl,-⟩ fr;exact lD)
  repeat (first|refine ah ?_|refine aF ?_|refine bM ?_|refine mf (by rfl) (by rfl) qh ?_|refine aA ?_)
  refine bF aK dO hat1 ⟨.int .i64 (0:Nat),⟨0,rfl,by omega⟩,rfl⟩ ?_
  rintro _ ⟨x,rfl,hx14⟩ -
  refine ⟨dF,_,_,_,_,_,dA,(by decide),aQ,?_⟩
  repeat (first|refine ag ?_|refine ak ?_|refine aA ?_|refine dh ?_|refine dS ?_|refine kD ?_)
  refine Ec [] [] aU aU (fun _ _ r=>∃y:Nat,r=.int .i64 y/\y < 11) (by simp) (by simp) ?_ (by rintro _ _ _ ⟨y,rfl,-⟩ fr;exact lD)
  repeat (first|refine ah ?_|refine aF ?_|refine bM ?_|refine mf (by rfl) (by rfl) qh ?_|refine aA ?_)
  refine bF aK dO hat2 ⟨.int .i64 (0:Nat),⟨0,rfl,by omega⟩,rfl⟩ ?_
  rintro _ ⟨y,rfl,hy11⟩ -
  refine ⟨dF,_,_,_,_,_,dA,(by decide),aQ,?_⟩
  repeat (first|refine ah ?_|refine ag ?_|refine ak ?_|refine ae ?_|refine aC ?_|refine fM rfl (by rfl) gY ?_|refine aA ?_|refine dh ?_|refine dS ?_|refine kD ?_)
  refine bH [0,2,3,4,5,6,7] (fun s:Nat×List Nat=>s.1<=n/\RowU n s.1 s.2)
   (fun s=>⟨[(0,.sl l.length (HL.ints l)),(2,.pref 0 [] 0),(3,.int .i64 n),(4,.pref 1 [] 0),(5,.int .i64 i),(6,.ref 2 [] 1 0 s.2.length),(7,.int .i64 s.1)],[(0,.optr [.nils,.nils,.nils,.int .i64 0]),(1,.optr [.osl 1 (i+1) (HL.ints (W ++ [(x:Int)])),.osl 1 (i+1) (HL.ints (C ++ [(y:Int)])),.osl 1 i (gm nd),.int .i64 B]),(2,.osl 1 s.2.length (HL.ints (nl s.2)))],3⟩) (fun s=>n - s.1) (0,[]) ⟨by omega,⟨by simp,.nil,by simp⟩⟩ rfl ?_
  rintro ⟨k,row⟩ ⟨hk,hR⟩
  simp only at hk hR ⊢
  have hRl:=hR.len
  by_cases hkn:k < n
  ·have hat1:=zY l (22+i+3 * k) 5 (by omega) (by omega) (by omega) hl hr
   have hat2:=zY l (23+i+k) 4 (by omega) (by omega) (by omega) hl hr
   rw [show ((22+i+3 * k:Nat):Int)=22+(i:Int)+3 * (k:Int) by omega] at hat1
   rw [show ((23+i+k:Nat):Int)=23+(i:Int)+(k:Int) by omega] at hat2
   have no:RowU n (k+1) row:=hR.up
   have yes:RowU n (k+1) (row ++ [k]):=hR.snoc
   have hsn:(row ++ [k]).length=row.length+1:=by simp
   have hnr:=fE row
   repeat (first|refine ah ?_|refine ag ?_|refine az ?_|refine bM ?_|refine ax ?_|refine ak ?_|refine ae ?_|refine aC ?_|refine aB ?_|refine mf (by rfl) (by rfl) qh ?_)
   refine bg aK dO (hat1) ?_
   rintro _ ⟨y1,rfl,hy1⟩
   refine ⟨dF,_,_,_,_,_,dA,(by decide),aQ,?_⟩
   by_cases h1:y1=1
   ·subst h1
    by_cases h2:k > i
    ·repeat (first|refine ah ?_|refine aH ?_|refine bT ?_|refine ag ?_|refine aX ?_|refine aJ ?_|refine bM ?_|refine ax ?_|refine ae ?_|refine dm ?_|refine bu ?_|refine dS ?_|refine kD ?_)
     exact bQ [0,2,3,4,5,6,7] (k+1,row ++ [k]) ⟨hkn,yes⟩ fC (by rw [hsn];rfl)
    ·repeat (first|refine ah ?_|refine aH ?_|refine aX ?_|refine bM ?_|refine bu ?_)
     refine bg aK dO (hat2) ?_
     rintro _ ⟨y2,rfl,hy2⟩
     refine ⟨dF,_,_,_,_,_,dA,(by decide),aQ,?_⟩
     by_cases h3:y2=2
     ·subst h3
      repeat (first|refine ah ?_|refine aH ?_|refine ag ?_|refine aX ?_|refine aJ ?_|refine aI ?_|refine bM ?_|refine ax ?_|refine ae ?_|refine dm ?_|refine dS ?_|refine kD ?_)
      exact bQ [0,2,3,4,5,6,7] (k+1,row ++ [k]) ⟨hkn,yes⟩ fC (by rw [hsn];rfl)
     ·repeat (first|refine ah ?_|refine aH ?_|refine ag ?_|refine aX ?_|refine aJ ?_|refine aI ?_|refine bM ?_|refine au ?_|refine ae ?_|refine dm ?_|refine aB ?_)
      exact bQ [0,2,3,4,5,6,7] (k+1,row) ⟨hkn,no⟩ fC rfl
   ·repeat (first|refine ah ?_|refine bT ?_|refine ag ?_|refine aX ?_|refine aI ?_|refine bM ?_|refine au ?_|refine ae ?_|refine dm ?_|refine aB ?_|refine rf (by rfl) (by rfl) ?_)
    exact bQ [0,2,3,4,5,6,7] (k+1,row) ⟨hkn,no⟩ fC rfl
  ·obtain rfl:k=n:=by omega
   have hPs:=hP.snoc hx14 hy11 (row:=row) hR.lt hR.sorted
   have hro:=yO nd row rfl
   have hrol:=nY nd
   repeat (first|refine ah ?_|refine gX (by rfl) dK (by (try simp (disch:=omega) only [go_sem,reduceIte,Nat.reduceEqDiff,Nat.reduceAdd,Nat.reduceMul,hro]);try rfl) aV (by (try simp (disch:=omega) only [go_sem,hro]);try rfl) gy ?_|refine ag ?_|refine az ?_|refine dn (by rfl) (by rfl) (by (try simp (disch:=omega) only [go_sem,Int.reduceAdd,Int.reduceSub,Int.reduceMul,hro]);try rfl) ?_|refine bz (by rfl) ?_|refine au ?_|refine ak ?_|refine ae ?_|refine dm ?_|refine aA ?_|refine LH (by rfl) gy di zJ LV (by rfl) Pe (by rfl) Pg (by (try simp (disch:=omega) only [go_sem,reduceIte,Nat.reduceEqDiff,Nat.reduceAdd,Nat.reduceMul,hro]);try rfl) aV (by (try simp (disch:=omega) only [go_sem,hro]);try rfl) di O4 ?_|refine FB gY aK di zJ (by simp) (by rfl) (by rfl) (by rfl) ?_|refine Hq gY (by rfl) gy Et (by simp [oV,qU,cellV]) dK di gY (by omega) kQ aV (by (try simp (disch:=omega) only [go_sem,reduceIte,Nat.reduceEqDiff,Nat.reduceAdd,Nat.reduceMul,hro]);try rfl) di (by rfl) ?_)
   exact bQ [0,2,3,4,5] (i+1,W ++ [(x:Int)],C ++ [(y:Int)],nd ++ [row]) ⟨hin,hPs⟩ fC rfl
 ·obtain rfl:i=n:=by omega
  refine ak ?_
  refine ak ?_
  refine ae ?_
  repeat (first|refine ah ?_|refine ag ?_|refine az ?_)
  refine au ?_
  refine bz (by rfl) ?_
  refine dU [2,4] (⟨[(2,.pref 0 [] 0),(4,.pref 1 [] 0)],[(0,.optr [.nils,.nils,.nils,.int .i64 0]),(1,.optr (U0 W C nd B i))],2⟩:St) rfl ?_
  exact hend W C nd i B hP hn hB
theorem yf (l:List Int) (hl:l.length<=9223372036854775807) (hr:∀k,k < l.length -> -9223372036854775808<=l.getD k 0/\l.getD k 0<=9223372036854775807):HT Try.prog 9 [I l] (fun r=>∃W C nd B,Pb W C nd B/\nd.length<=9/\r=.agg (jX W C nd B)):=by
 refine wz l hl hr _ fun W C nd i B hP hn hB=>?_
 have hWl:=hP.lw
 have hCl:=hP.lc
 have hnl:=hP.ln
 unfold U0
 have hE:(stripL (HL.ints W),stripL (HL.ints C),stripL (gm nd))=(HL.ints W,HL.ints C,bf (nd.map nl)):=by rw [HL.ints_strip,HL.ints_strip,ng]
 refine kF 1 [2,4] (⟨[(2,.pref 0 [] 0),(4,.ptr [.sl i (HL.ints W),.sl i (HL.ints C),.sl i (bf (nd.map nl)),.int .i64 B] 0)],[(0,.optr [.nils,.nils,.nils,.int .i64 0])],1⟩:St) (congrArg (fun p:List HV×List HV×List HV=>(⟨[(2,.pref 0 [] 0),(4,.ptr [.sl i p.1,.sl i p.2.1,.sl i p.2.2,.int .i64 B] 0)],[(0,.optr [.nils,.nils,.nils,.int .i64 0])],1⟩:St)) hE) ?_
 repeat (first|refine ag ?_|refine ak ?_|refine ae ?_|refine Af (by rfl) aV He ?_|refine dh ?_)
 refine ay ?_
 refine ⟨_,_,rfl,rfl,W,C,nd,B,hP.pb (by omega) hB,by omega,?_⟩
 unfold jX I Gs
 rw [hWl,hCl,List.length_map,hnl]
 rfl
end Go.Proofs.Yteamkjblpglliaa
end
