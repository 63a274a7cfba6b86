import Derived.Test.YtlbdmpjnmfmnfaaHlBi
import Derived.Test.YtlbdmpjnmfmnfaaFsA
import Derived.Test.YtlbdmpjnmfmnfaaHlFi
import Derived.Test.YtlbdmpjnmfmnfaaCodes
import Derived.Test.YtlbdmpjnmfmnfaaFsQ
section
set_option linter.unusedSimpArgs false
set_option linter.unusedVariables false
namespace Go.Proofs.Ytlbdmpjnmfmnfaa
set_option linter.unusedSimpArgs false
open Go.RowKit Go.HL
theorem Qi (n:Nat) (hn:n<=1000000):HT Try.prog 103 [.nils,.int .i64 n] (fun r=>r=.osl 1 0 []):=by
 refine HT.of rfl adk (Nat.le_of_ble_eq_true rfl) ?_
 unfold abZ
 simp only [aY,Nat.reduceAdd]
 rcases Nat.eq_zero_or_pos n with rfl|h0
 ·repeat (first|refine Eu (by rfl) ?_|refine ah ?_|refine af ?_|refine az ?_|refine au ?_|refine ak ?_|refine ae ?_|refine aF ?_)
  refine NP (by rfl) ?_
  repeat (first|refine ah ?_|refine af ?_|refine fF (by rfl) ?_|refine au ?_|refine ak ?_|refine ae ?_|refine aF ?_|refine bU ?_|refine yh (by rfl) (by rfl) MQ ?_|refine dm ?_)
  refine ay ?_
  rfl
 ·have hi:(0:Int)<n:=by omega
  repeat (first|refine Eu (by rfl) ?_|refine ah ?_|refine af ?_|refine az ?_|refine au ?_|refine ak ?_|refine ae ?_|refine aF ?_)
  refine NP (by rfl) ?_
  repeat (first|refine Eu (by rfl) ?_|refine ah ?_|refine af ?_|refine ax ?_|refine ak ?_|refine ae ?_|refine yh (by rfl) (by rfl) (by (try simp (disch:=omega) only [go_sem,Int.reduceAdd,Int.reduceSub,Int.reduceMul,decide_eq_true hi]);try rfl) ?_|refine dm ?_|refine PM (by rfl) ?_)
  refine NP (by rfl) ?_
  skip
  refine Xv (by rfl) (by rfl) ?_
  repeat (first|refine ah ?_)
  refine U5 (fr:=288) (cs:=(List.replicate n [HV.bool false]).flatten) (by rfl) (by rfl) h0 (by omega) iU (by rfl) rfl ?_
  repeat (first|refine Eu (by rfl) ?_|refine ah ?_|refine af ?_|refine ak ?_|refine ae ?_|refine PM (by rfl) ?_|refine Ib (by rfl) (by rfl) (by rfl) (by omega) aP eH ?_)
  refine uB 4 [4] (⟨[(4,.ref 0 [] 1 0 0)],[(0,.osl 1 0 [])],1⟩:St) rfl rfl (Nat.zero_le _) (by rw [Dz];exact HL.bools_flat _) (by decide) rfl ?_
  refine ay ?_
  rfl
end Go.Proofs.Ytlbdmpjnmfmnfaa
end
section
set_option linter.unusedSimpArgs false
set_option linter.unusedVariables false
namespace Go.Proofs.Ytlbdmpjnmfmnfaa
set_option linter.unusedSimpArgs false
open Go.RowKit Go.HL
def bR (ll:List (List Bool)):List HV:=ll.map fun b=>.sl b.length (HL.bools b)
theorem XB (ll:List (List Bool)):(bR ll).length=ll.length:=by simp [bR]
theorem VH (ll:List (List Bool)) {i:Nat} (h:i<ll.length):(bR ll).getD i .dead=.sl (ll.getD i []).length (HL.bools (ll.getD i [])):=by simp [bR,h]
attribute [go_sem] XB VH
def xJ (ll:List (List Bool)) (i:Nat):Nat:=((ll.take i).flatten).length
theorem Bj {ll:List (List Bool)} {i:Nat} (h:i<ll.length):(ll.take (i+1)).flatten=(ll.take i).flatten++ll.getD i []:=by
 rw [List.take_add_one,List.getElem?_eq_getElem h,List.getD_eq_getElem?_getD,List.getElem?_eq_getElem h,List.flatten_append]
 simp only [Option.toList_some,List.flatten_cons,List.flatten_nil,List.append_nil,Option.getD_some]
theorem xP {ll:List (List Bool)} {i:Nat}:xJ ll i<=ll.flatten.length:=by
 unfold xJ
 have:(ll.take i).flatten++(ll.drop i).flatten=ll.flatten:=by rw [<- List.flatten_append,List.take_append_drop]
 rw [<- this,List.length_append];omega
set_option maxHeartbeats 4000000 in
theorem Aq (ll:List (List Bool)) (hl:ll.length<=1000) (hs:ll.flatten.length<=1000000):HT Try.prog 74 [.sl ll.length (bR ll)] (fun r=>r=.osl 1 ll.flatten.length (HL.bools ll.flatten)):=by
 refine HT.of rfl ad2 (Nat.le_of_ble_eq_true rfl) ?_
 unfold c74
 simp only [aY,Nat.reduceAdd]
 repeat (first|refine ah ?_|refine af ?_|refine aQ ?_|refine ak ?_|refine ae ?_|refine aB ?_|refine bU ?_)
 refine cu [0,3,9,10,11] (fun i:Nat=>i<=ll.length)
  (fun i=>⟨[(0,.sl ll.length (bR ll)),(3,.int .i64 (xJ ll i)),(9,.sl ll.length (bR ll)),(10,.int .i64 ll.length),(11,.int .i64 i)],[],0⟩)
  (fun i=>ll.length - i) 0 (by omega) (by simp [xJ];rfl) ?_
 intro i hi
 have hc:=xP (ll:=ll) (i:=i)
 by_cases hil:i<ll.length
 ·have hst:=Bj hil
  have hc2:=xP (ll:=ll) (i:=i+1)
  have e:xJ ll (i+1)=xJ ll i+(ll.getD i []).length:=by unfold xJ;rw [hst,List.length_append]
  have hneg:¬ ((xJ ll i:Int)+((ll.getD i []).length:Int)<0):=by omega
  repeat (first|refine ah ?_|refine aU ?_|refine bZ ?_|refine af ?_|refine az ?_|refine bH ?_|refine aQ ?_|refine ax ?_|refine au ?_|refine ak ?_|refine ae ?_|refine aB ?_|refine fK ?_|refine aF ?_)
  exact dB [0,3,9,10,11] (i+1) hil (by omega) (by rw [e];rfl)
 ·obtain rfl:i=ll.length:=by omega
  have e0:xJ ll ll.length=ll.flatten.length:=by unfold xJ;rw [List.take_length]
  rw [e0]
  repeat (first|refine ah ?_|refine af ?_|refine az ?_|refine bK (by rfl) ?_|refine au ?_|refine ak ?_|refine ae ?_)
  refine bY bz bW (Qi ll.flatten.length hs) ?_
  rintro _ rfl
  refine ⟨bG,_,_,_,_,_,fU,(by decide),bu,?_⟩
  repeat (first|refine ah ?_|refine af ?_|refine aQ ?_|refine ak ?_|refine ae ?_|refine aB ?_)
  refine cu [6,25,26,27] (fun i:Nat=>i<=ll.length)
   (fun i=>⟨[(6,.ref 0 [] 1 0 (ll.take i).flatten.length),(25,.sl ll.length (bR ll)),(26,.int .i64 ll.length),(27,.int .i64 i)],[(0,.osl 1 (ll.take i).flatten.length (HL.bools (ll.take i).flatten))],1⟩)
   (fun i=>ll.length - i) 0 (by omega) (by simp;rfl) ?_
  intro i hi
  have hc:=xP (ll:=ll) (i:=i)
  unfold xJ at hc
  by_cases hil:i<ll.length
  ·have hst:=Bj hil
   have hc2:=xP (ll:=ll) (i:=i+1)
   unfold xJ at hc2
   rw [hst,List.length_append] at hc2
   generalize (ll.take i).flatten=Q at hst hc hc2 ⊢
   generalize hb:ll.getD i []=b at hst hc2
   repeat (first|refine ah ?_|refine aU ?_|refine jb (by rfl) aW (by (try simp (disch:=omega) only [go_sem,hb,HL.bools_app]);try rfl) ?_|refine af ?_|refine az ?_|refine jL (by rfl) (by rfl) (by (try simp (disch:=omega) only [go_sem,Int.reduceAdd,Int.reduceSub,Int.reduceMul,hb,HL.bools_app]);try rfl) ?_|refine ax ?_|refine ak ?_|refine ae ?_|refine aB ?_|refine fK ?_|refine aF ?_|refine lD eH (by rfl) aV uS (by (try simp (disch:=omega) only [go_sem,reduceIte,Nat.reduceEqDiff,Nat.reduceAdd,Nat.reduceMul,hb,HL.bools_app]);try omega) bV (by (try simp (disch:=omega) only [go_sem,reduceIte,Nat.reduceEqDiff,Nat.reduceAdd,Nat.reduceMul,hb,HL.bools_app]);try rfl) eH (by omega) iU aW (by (try simp (disch:=omega) only [go_sem,reduceIte,Nat.reduceEqDiff,Nat.reduceAdd,Nat.reduceMul,hb,HL.bools_app]);try rfl) aP ?_)
   refine dB [6,25,26,27] (i+1) hil (by omega) ?_
   rw [hst]
   simp only [List.length_append]
   rfl
  ·obtain rfl:i=ll.length:=by omega
   rw [List.take_length]
   repeat (first|refine ah ?_|refine af ?_|refine az ?_|refine bK (by rfl) ?_|refine au ?_|refine ak ?_|refine ae ?_)
   refine ay ?_
   rfl
end Go.Proofs.Ytlbdmpjnmfmnfaa
end
section
set_option linter.unusedSimpArgs false
set_option linter.unusedVariables false
namespace Go.Proofs.Ytlbdmpjnmfmnfaa
set_option linter.unusedSimpArgs false
set_option linter.unnecessarySimpa false
open Go.RowKit Go.HL Go.FS
abbrev Tn:=List Bool×List A
def jm (p q:Int):A:=⟨p,-1,-1,q⟩
def Bi (p q:Tn):Tn:=if pU [p,q] then ([false]++(p.1++q.1),[jm 0 1,jm 0 (1+p.1.length)]++p.2.map (iV 1)++q.2.map (iV (1+p.1.length))) else ([],[])
def jg (p q:Tn):Tn:=if pU [p,q] then (List.replicate p.1.length false++q.1,p.2.map (iV 0)++q.2.map (iV p.1.length)++(jS p.1 p.1.length).map fun i=>jm i p.1.length) else ([],[])
def iF (p:Tn):Tn:=if pU [p] then (true::List.replicate p.1.length false,[jm 0 1]++p.2.map (iV 1)++(jS p.1 p.1.length).map fun i=>jm (i+1) 0) else ([],[])
theorem Ho {p q:Tn} (h:pU [p,q]=true):okF p.1 p.2=true/\okF q.1 q.2=true/\p.1.length+q.1.length<=2000/\p.2.length+q.2.length<=6000:=by
 simp only [pU,List.all_cons,List.all_nil,Bool.and_true,Bool.and_eq_true,decide_eq_true_eq,xN,xO,List.map_cons,List.map_nil,List.sum_cons,List.sum_nil,Nat.add_zero] at h
 exact ⟨h.1.1,h.1.2,h.2.1,h.2.2⟩
theorem Vj {p:Tn} (h:pU [p]=true):okF p.1 p.2=true/\p.1.length<=2000/\p.2.length<=6000:=by
 simp only [pU,List.all_cons,List.all_nil,Bool.and_true,Bool.and_eq_true,decide_eq_true_eq,xN,xO,List.map_cons,List.map_nil,List.sum_cons,List.sum_nil,Nat.add_zero] at h
 exact ⟨h.1,h.2.1,h.2.2⟩
end Go.Proofs.Ytlbdmpjnmfmnfaa
end
section
set_option linter.unusedSimpArgs false
set_option linter.unusedVariables false
namespace Go.Proofs.Ytlbdmpjnmfmnfaa
open Go.RowKit Go.HL
theorem Ad (n:Int) (m:Nat) (hm:0<m) (hm2:m<=1099511627776) (h1 : -9223372036854775808<=n) (h2:n<=9223372036854775807):HT Try.prog 16 [.int .i64 n,.int .i64 m] (fun r=>∃y:Nat,r=.int .i64 y/\y<m):=by
 refine HT.of rfl adB (Nat.le_of_ble_eq_true rfl) ?_
 unfold c16
 simp only [aY,Nat.reduceAdd]
 by_cases h0:n<0
 ·obtain ⟨x,hx⟩:∃x:Nat,0 - (n+1)=x:=⟨(-(n+1)).toNat,by omega⟩
  have ht:(x:Int).tmod m=((x % m:Nat):Int):=(Int.ofNat_tmod x m).symm
  have hlt:=Nat.mod_lt x hm
  repeat (first|refine ah ?_|refine af ?_|refine az ?_|refine jL (by rfl) (by rfl) (by (try simp (disch:=omega) only [go_sem,Int.reduceAdd,Int.reduceSub,Int.reduceMul,hx,ht]);try rfl) ?_|refine ax ?_|refine ak ?_|refine ae ?_|refine DV (by rfl) (by rfl) (by omega) (by (try simp (disch:=omega) only [go_sem,Int.reduceAdd,Int.reduceSub,Int.reduceMul,hx,ht]);try rfl) ?_|refine Yr (by rfl) (by (try simp (disch:=omega) only [go_sem,Int.reduceAdd,Int.reduceSub,Int.reduceMul,hx,ht]);try rfl) ?_)
  refine ay ?_
  exact ⟨x % m,rfl,hlt⟩
 ·obtain ⟨x,rfl⟩:∃x:Nat,n=x:=⟨n.toNat,by omega⟩
  have ht:(x:Int).tmod m=((x % m:Nat):Int):=(Int.ofNat_tmod x m).symm
  have hlt:=Nat.mod_lt x hm
  repeat (first|refine ah ?_|refine af ?_|refine az ?_|refine au ?_|refine ak ?_|refine ae ?_|refine aF ?_|refine DV (by rfl) (by rfl) (by omega) (by (try simp (disch:=omega) only [go_sem,Int.reduceAdd,Int.reduceSub,Int.reduceMul,ht]);try rfl) ?_)
  refine ay ?_
  exact ⟨x % m,rfl,hlt⟩
theorem D7 (l:List Int) (i:Nat) (m:Nat) (hm:0<m) (hm2:m<=1099511627776) (hi:i<=1000000) (hl:l.length<=9223372036854775807) (hr:∀k,k<l.length -> -9223372036854775808<=l.getD k 0/\l.getD k 0<=9223372036854775807):HT Try.prog 50 [I l,.int .i64 i,.int .i64 m] (fun r=>∃y:Nat,r=.int .i64 y/\y<m):=by
 refine HT.of rfl aet (Nat.le_of_ble_eq_true rfl) ?_
 unfold c50
 simp only [I,aY,Nat.reduceAdd]
 by_cases hil:i<l.length
 ·have:=hr i hil
  repeat (first|refine ah ?_|refine aK ?_|refine aU ?_|refine bZ ?_|refine af ?_|refine az ?_|refine aO ?_|refine aQ ?_|refine au ?_|refine ak ?_|refine ae ?_|refine aF ?_|refine mW (by rfl) (by rfl) kC ?_)
  refine bY bz bW (Ad (l.getD i 0) m hm hm2 this.1 this.2) ?_
  rintro _ ⟨y,rfl,hy⟩
  refine ⟨bG,_,_,_,_,_,fU,(by decide),bu,?_⟩
  repeat (first|refine ah ?_|refine af ?_)
  refine ay ?_
  exact ⟨y,rfl,hy⟩
 ·repeat (first|refine ah ?_|refine aK ?_|refine af ?_|refine az ?_|refine aO ?_|refine aQ ?_|refine ax ?_|refine ak ?_|refine ae ?_|refine mW (by rfl) (by rfl) kC ?_)
  refine ay ?_
  exact ⟨0,rfl,hm⟩
end Go.Proofs.Ytlbdmpjnmfmnfaa
end
section
set_option linter.unusedSimpArgs false
set_option linter.unusedVariables false
namespace Go.Proofs.Ytlbdmpjnmfmnfaa
open Go.RowKit Go.HL Go.FS
theorem zy (x:Nat) (h:x<=1048576):HT Try.prog 51 [.int .i64 x] (fun r=>∃y:Int,r=.int .i64 y /\ -1<=y/\y<=2):=by
 refine HT.of rfl adP (Nat.le_of_ble_eq_true rfl) ?_
 unfold c51
 simp only [aY,Nat.reduceAdd]
 have h7:((x:Int).tmod 7).tmod 4=((x % 7 % 4:Nat):Int):=by
  have e:(x:Int).tmod 7=(x:Int) % 7:=Int.tmod_eq_emod_of_nonneg (by omega)
  rw [e,Int.tmod_eq_emod_of_nonneg (by omega)];omega
 have h8:x % 7 % 4<4:=Nat.mod_lt _ (by decide)
 generalize x % 7 % 4=y at h7 h8
 repeat (first|refine ah ?_|refine af ?_|refine ak ?_|refine ae ?_|refine yh (by rfl) (by rfl) (by (try simp (disch:=omega) only [go_sem,Int.reduceAdd,Int.reduceSub,Int.reduceMul,h7]);try rfl) ?_|refine DV (by rfl) (by rfl) (by omega) (by (try simp (disch:=omega) only [go_sem,Int.reduceAdd,Int.reduceSub,Int.reduceMul,h7]);try rfl) ?_)
 refine ay ?_
 exact ⟨_,rfl,by omega,by omega⟩
end Go.Proofs.Ytlbdmpjnmfmnfaa
end
section
set_option linter.unusedSimpArgs false
set_option linter.unusedVariables false
namespace Go.Proofs.Ytlbdmpjnmfmnfaa
open Go.RowKit Go.HL Go.FS
theorem qM {α:Type} [Inhabited α] {g:α->List HV} {k:Nat} (r:Rec g k) {v:HV} {x:α}:∀ (l:List α) {i j:Nat},i<l.length->j<k->(g (l.getD i default)).set j v=g x->(recs g l).set (i*k+j) v=recs g (l.set i x)
 | [],i,j,h,_,_=>by simp at h
 | a::l,0,j,_,hj,he=>by
  have e:recs g (a::l)=g a++recs g l:=rfl
  rw [e,Nat.zero_mul,Nat.zero_add,List.set_append_left _ _ (by rw [r.len];exact hj)]
  simp only [List.getD_cons_zero] at he
  rw [he];rfl
 | a::l,i+1,j,h,hj,he=>by
  have e:recs g (a::l)=g a++recs g l:=rfl
  have hl:=r.len a
  rw [e,List.set_append_right _ _ (by rw [hl,Nat.add_mul,Nat.one_mul];omega),hl,show (i+1)*k+j - k=i*k+j by rw [Nat.add_mul,Nat.one_mul];omega,qM r l (by simpa using h) hj (by simpa using he)]
  rfl
theorem KZ (l:List A) {i:Nat} (v:Int) (h:i<l.length):(recs aC l).set (i*4) (.int .i64 v)=recs aC (l.set i { l.getD i default with f:=v }):=qM aR (j:=0) l h (by omega) rfl
theorem Ll (l:List A) {i:Nat} (v:Int) (h:i<l.length):(recs aC l).set (i*4+1) (.int .i64 v)=recs aC (l.set i { l.getD i default with i:=v }):=qM aR l h (by omega) rfl
theorem L6 (l:List A) {i:Nat} (v:Int) (h:i<l.length):(recs aC l).set (i*4+2) (.int .i64 v)=recs aC (l.set i { l.getD i default with o:=v }):=qM aR l h (by omega) rfl
theorem MR (l:List A) {i:Nat} (v:Int) (h:i<l.length):(recs aC l).set (i*4+3) (.int .i64 v)=recs aC (l.set i { l.getD i default with t:=v }):=qM aR l h (by omega) rfl
attribute [go_sem] KZ Ll L6 MR
theorem jd (F:List Bool) (X:List A) (n m:Nat):stripL [.osl 1 n (HL.bools F),.osl 4 m (recs aC X)]=[.sl n (HL.bools F),.sl m (recs aC X)]:=by simp [stripL,HV.strip,HL.bools_strip,jf]
end Go.Proofs.Ytlbdmpjnmfmnfaa
end
