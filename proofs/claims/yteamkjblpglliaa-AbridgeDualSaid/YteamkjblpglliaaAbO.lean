import Derived.Test.YteamkjblpglliaaAbM
import Derived.Test.YteamkjblpglliaaClHull
import Derived.Test.YteamkjblpglliaaAbN
import Derived.Test.YteamkjblpglliaaAbZ
import Derived.Test.YteamkjblpglliaaFlChk
set_option linter.unusedSimpArgs false
set_option linter.unusedVariables false
namespace Go.Proofs.Yteamkjblpglliaa
open Go.RowKit Go.SL Go.HL
structure SolS (W C:List Int) (nd:List (List Nat)) (B steps:Int) (s:Se) (b:Bool):Prop where
 lst:Lst W C nd B s
 sel:Sel C nd B s.best
 best:b=true->∀X,Sel C nd B X->rE W C nd.length X s.best=false
 enough:1023<=steps->nd.length<=9->b=true
 all:wS C (List.replicate nd.length true) nd.length<=B->b=true
def Gj (W C:List Int) (n:Nat) (s:Se) (b:Bool):List HV:=[.sl n (HL.bools s.best),.int .i64 (wS W s.best n),.int .i64 (wS C s.best n),.int .i64 s.num,.int .i64 s.den,.sl s.flow.length (HL.ints s.flow),.int .i64 s.value,.bool b]
theorem yR (l:List Bool):cu (HL.bools l)=[]:=by
 induction l with
 | nil=>rfl
 | cons b l ih=>show cu (.bool b::HL.bools l)=[];rw [cu,ih];rfl
theorem DJ (n u:Nat):(List.replicate n false).getD u false=false:=by
 rw [List.getD_eq_getElem?_getD,List.getElem?_replicate];split<;>rfl
theorem EZ {n u:Nat} (h:u<n):(List.replicate n true).getD u false=true:=by
 rw [List.getD_eq_getElem?_getD,List.getElem?_replicate,if_pos h];rfl
set_option maxHeartbeats 16000000 in
theorem yG {W C:List Int} {nd:List (List Nat)} {B:Int} (h:Pb W C nd B) (steps:Int) (hs0:0<=steps) (hs1:steps<=1048576):HT Try.prog 19 [.agg (jD W C nd B),.int .i64 steps] (fun r=>∃s b,r=.tup [.agg (Gj W C nd.length s b),.int .i64 0]/\SolS W C nd B steps s b):=by
 have hsz:=h.g.size
 have hlw:=h.lw
 have hlc:=h.lc
 have hB:=h.b
 have hnl:(nd.map nl).length=nd.length:=by simp
 have hav:=og h
 have hw0:WOK (gB W C 0 1):=fun i=>by
  by_cases hi:i<W.length
  ·rw [uY W C 0 1 hi]
   have:=h.w i
   omega
  ·rw [List.getD_eq_getElem?_getD,List.getElem?_eq_none (by rw [mV];omega)];simp
 have hm0:Mul 0 1:=⟨by omega,by omega⟩
 have hdo:=vI h 0 1 hm0 hw0
 have hgr:=Jt h
 simp only [I,Gs,jD,hlw,hlc,hnl] at hav hdo hgr
 refine HT.ofC rfl aeJ [4,5] rfl (Nat.le_of_ble_eq_true rfl) ?_
 unfold c19
 simp only [I,Gs,jD,aP,Nat.reduceAdd,hlw,hlc,hnl]
 repeat (first|refine ah ?_|refine ag ?_|refine ak ?_|refine ae ?_|refine bM ?_|refine dX ?_|refine iD gU ?_)
 refine bf aJ dI (hav) ?_
 rintro _ rfl
 refine ⟨dE,_,_,_,_,_,dw,(by decide),aQ,?_⟩
 repeat (first|refine ah ?_|refine aG ?_|refine dR (by rfl) ?_)
 refine bf aJ dI (jK steps 0 1048576) ?_
 rintro _ rfl
 have hin:(decide (0<=steps)&&decide (steps<=1048576))=true:=by simp [hs0,hs1]
 rw [hin]
 refine ⟨dE,_,_,_,_,_,dw,(by decide),aQ,?_⟩
 repeat (first|refine aG ?_|refine ag ?_|refine aI ?_|refine au ?_|refine ak ?_|refine ae ?_|refine aA ?_|refine dR (by rfl) ?_|refine bM ?_)
 refine bf aJ dI (hdo) ?_
 rintro _ ⟨fl,set,value,hD,rfl⟩
 rw [<- hD.found.flow.len]
 have hSm:=hD.max
 have hLd:∃set' value,Lh W C nd 0 1 fl set' value/\set.take nd.length=set'.take nd.length:=⟨set,value,hD,rfl⟩
 obtain ⟨S,hS⟩:∃S,set.take nd.length=S:=⟨_,rfl⟩
 rw [hS] at hSm hLd ⊢
 obtain ⟨v,hv⟩:∃v,oh W C nd B 0 1 S=v:=⟨_,rfl⟩
 rw [hv]
 clear hD hS
 have hSl:=hSm.len
 refine ⟨dE,_,_,_,_,_,dw,(by decide),aQ,?_⟩
 repeat (first|refine ah ?_|refine ag ?_|refine bU ?_|refine dn ?_|refine iD gU ?_)
 have hE2:(stripL (HL.bools S),stripL (HL.ints fl))=(HL.bools S,HL.ints fl):=by rw [HL.bools_strip,HL.ints_strip]
 refine jb 256 [1,2,4,5,6,7] (⟨[(1,.int .i64 steps),(2,.pref 0 [] 0),(4,.pref 1 [] 0),(5,.int .i64 0),(6,.pref 2 [] 0),(7,.int .i64 0)],[(0,.optr [.sl nd.length (HL.ints W),.sl nd.length (HL.ints C),.sl nd.length (aZ (nd.map nl)),.int .i64 B]),(1,.optr [.nils,.int .i64 0,.int .i64 0,.int .i64 0,.int .i64 0,.nils,.int .i64 0,.bool false]),(2,.optr [.int .i64 0,.int .i64 1,.int .i64 v,.sl nd.length (HL.bools S),.sl fl.length (HL.ints fl)])],3⟩:St) rfl (congrArg (fun c:List HV×List HV=>(⟨[(1,.int .i64 steps),(2,.pref 0 [] 0),(4,.pref 1 [] 0),(5,.int .i64 0),(6,.pref 2 [] 0),(7,.int .i64 0)],[(0,.optr [.sl nd.length (HL.ints W),.sl nd.length (HL.ints C),.sl nd.length (aZ (nd.map nl)),.int .i64 B]),(1,.optr [.nils,.int .i64 0,.int .i64 0,.int .i64 0,.int .i64 0,.nils,.int .i64 0,.bool false]),(2,.optr [.int .i64 0,.int .i64 1,.int .i64 v,.sl nd.length c.1,.sl fl.length c.2])],3⟩:St)) hE2) ?_
 refine ak ?_
 refine ak ?_
 refine ae ?_
 repeat (first|refine ah ?_|refine ag ?_|refine aW ?_)
 refine au ?_
 refine aA ?_
 refine ak ?_
 refine bQ bi bi (fun _ _ r=>∃G,r=.osl 1 nd.length (HL.bools G)/\Sel C nd B G) ?_
 repeat (first|refine ah ?_|refine bM ?_)
 refine bG aJ dI (hgr.mono fun r h=>h) ⟨_,⟨_,rfl,Sel.none hB.1⟩,yR _⟩ ?_
 rintro _ ⟨G,rfl,hG⟩ -
 have hGl:=hG.len
 refine ⟨dE,_,_,_,_,_,dw,(by decide),aQ,?_⟩
 repeat (first|refine aH ?_|refine aF ?_|refine aC ?_|refine bM ?_|refine ku gU (by rfl) (by omega) bW bW ?_|refine nC ng nD (by simp [iU]) ?_)
 refine NM gU fP bW yK KE (by rfl) (by simp only [sQ,List.cons_append,List.nil_append,List.append_nil,List.map_cons,List.map_nil,if_true,if_false,reduceIte];try rfl) ?_
 repeat (first|refine ah ?_|refine ag ?_)
 refine dO [2,4,5,6,8] (⟨[(2,.pref 0 [] 0),(4,.pref 1 [] 0),(5,.int .i64 0),(6,.pref 2 [] 0),(8,.pref 3 [] 0)],[(0,.optr [.sl nd.length (HL.ints W),.sl nd.length (HL.ints C),.sl nd.length (aZ (nd.map nl)),.int .i64 B]),(1,.optr [.nils,.int .i64 0,.int .i64 0,.int .i64 0,.int .i64 0,.nils,.int .i64 0,.bool false]),(2,.optr [.int .i64 0,.int .i64 1,.int .i64 v,.sl nd.length (HL.bools S),.sl fl.length (HL.ints fl)]),(3,.optr [.sl nd.length (HL.ints W),.sl nd.length (HL.ints C),.sl nd.length (aZ (nd.map nl)),.int .i64 B,.int .i64 steps,.osl 1 nd.length (HL.bools G),.int .i64 0,.int .i64 1,.int .i64 v,.sl nd.length (HL.bools S),.sl fl.length (HL.ints fl),.osl 1 nd.length (fZ (List.replicate nd.length []))])],4⟩:St) rfl ?_
 have o1:=fD C S h.cok (by omega) (by omega)
 simp only [I,Bl,hlc,hSl] at o1
 refine ak ?_
 refine bQ bi bi (Ik nd.length) ?_
 repeat (first|refine aH ?_|refine aC ?_)
 refine bG aJ dI (o1.mono fun r h=>⟨C,S,rfl,h⟩) ⟨_,⟨C,S,rfl,rfl⟩,rfl⟩ ?_
 rintro r hr -
 obtain rfl:=gz hr
 refine ⟨dE,_,_,_,_,_,dw,(by decide),aQ,?_⟩
 apply uM (P:=Try.prog) (fun q:Se×List (List Nat)×Bool=>(⟨[(2,.pref 0 [] 0),(4,.pref 1 [] 0),(5,.int .i64 0),(8,.pref 2 [] 0),(9,.bool q.2.2)],[(0,.optr [.sl nd.length (HL.ints W),.sl nd.length (HL.ints C),.sl nd.length (aZ (nd.map nl)),.int .i64 B]),(1,.optr [.nils,.int .i64 0,.int .i64 0,.int .i64 0,.int .i64 0,.nils,.int .i64 0,.bool false]),(2,.optr [.sl nd.length (HL.ints W),.sl nd.length (HL.ints C),.sl nd.length (aZ (nd.map nl)),.int .i64 B,.int .i64 q.1.steps,.sl nd.length (HL.bools q.1.best),.int .i64 q.1.num,.int .i64 q.1.den,.int .i64 q.1.value,.sl nd.length (HL.bools q.1.set),.sl q.1.flow.length (HL.ints q.1.flow),.sl nd.length (aZ (q.2.1.map nl))])],3⟩:St)) (fun q=>SolS W C nd B steps q.1 q.2.2)
 ·intro key
  have hE3:∀ (X:List Bool) (us:List (List Nat)),(stripL (HL.ints W),stripL (HL.ints C),stripL (aZ (nd.map nl)),stripL (HL.bools X),stripL (HL.bools S),stripL (HL.ints fl),stripL (fZ us))=(HL.ints W,HL.ints C,aZ (nd.map nl),HL.bools X,HL.bools S,HL.ints fl,aZ (us.map nl)):=fun X us=>by simp only [HL.ints_strip,HL.bools_strip,fC,nM]
  by_cases hle:wS C S nd.length<=B
  ·repeat (first|refine ah ?_|refine aH ?_|refine ag ?_|refine dU ?_|refine aC ?_)
   refine ak ?_
   refine ak ?_
   refine ae ?_
   repeat (first|refine ah ?_|refine ag ?_)
   refine ax ?_
   refine ae ?_
   repeat (first|refine ah ?_|refine aH ?_|refine ag ?_|refine aC ?_|refine dn ?_|refine cZ fP rfl ?_)
   refine jb 3 [2,4,5,8,9] (⟨[(2,.pref 0 [] 0),(4,.pref 1 [] 0),(5,.int .i64 0),(8,.pref 2 [] 0),(9,.bool true)],[(0,.optr [.sl nd.length (HL.ints W),.sl nd.length (HL.ints C),.sl nd.length (aZ (nd.map nl)),.int .i64 B]),(1,.optr [.nils,.int .i64 0,.int .i64 0,.int .i64 0,.int .i64 0,.nils,.int .i64 0,.bool false]),(2,.optr [.sl nd.length (HL.ints W),.sl nd.length (HL.ints C),.sl nd.length (aZ (nd.map nl)),.int .i64 B,.int .i64 steps,.sl nd.length (HL.bools S),.int .i64 0,.int .i64 1,.int .i64 v,.sl nd.length (HL.bools S),.sl fl.length (HL.ints fl),.sl nd.length (aZ ((List.replicate nd.length []).map nl))])],3⟩:St) rfl (congrArg (fun c:List HV×List HV×List HV×List HV×List HV×List HV×List HV=>(⟨[(2,.pref 0 [] 0),(4,.pref 1 [] 0),(5,.int .i64 0),(8,.pref 2 [] 0),(9,.bool true)],[(0,.optr [.sl nd.length (HL.ints W),.sl nd.length (HL.ints C),.sl nd.length (aZ (nd.map nl)),.int .i64 B]),(1,.optr [.nils,.int .i64 0,.int .i64 0,.int .i64 0,.int .i64 0,.nils,.int .i64 0,.bool false]),(2,.optr [.sl nd.length c.1,.sl nd.length c.2.1,.sl nd.length c.2.2.1,.int .i64 B,.int .i64 steps,.sl nd.length c.2.2.2.1,.int .i64 0,.int .i64 1,.int .i64 v,.sl nd.length c.2.2.2.2.1,.sl fl.length c.2.2.2.2.2.1,.sl nd.length c.2.2.2.2.2.2])],3⟩:St)) (hE3 S (List.replicate nd.length []))) ?_
   exact key (⟨steps,S,0,1,v,S,fl⟩,List.replicate nd.length [],true) ⟨⟨hm0,hw0,hSm,hLd,hv.symm⟩,⟨hSl,hSm.closed,hle⟩,fun _ X hX=>FW hlw (fun i=>(h.c i).1) hSm hX,fun _ _=>rfl,fun _=>rfl⟩
  ·repeat (first|refine ah ?_|refine aH ?_|refine ag ?_|refine dU ?_|refine aC ?_)
   refine ak ?_
   refine ak ?_
   refine ae ?_
   repeat (first|refine ah ?_|refine ag ?_)
   refine au ?_
   rw [<- DD]
   refine ak ?_
   refine ak ?_
   refine ae ?_
   repeat (first|refine ah ?_|refine aH ?_|refine ag ?_|refine aF ?_|refine aC ?_)
   refine aB ?_
   refine bD [2,4,5,8,59,60,61] (fun i:Nat=>i<=nd.length)
    (fun i=>(⟨[(2,.pref 0 [] 0),(4,.pref 1 [] 0),(5,.int .i64 0),(8,.pref 2 [] 0),(59,.sl nd.length (aZ (nd.map nl))),(60,.int .i64 nd.length),(61,.int .i64 i)],[(0,.optr [.sl nd.length (HL.ints W),.sl nd.length (HL.ints C),.sl nd.length (aZ (nd.map nl)),.int .i64 B]),(1,.optr [.nils,.int .i64 0,.int .i64 0,.int .i64 0,.int .i64 0,.nils,.int .i64 0,.bool false]),(2,.optr [.sl nd.length (HL.ints W),.sl nd.length (HL.ints C),.sl nd.length (aZ (nd.map nl)),.int .i64 B,.int .i64 steps,.osl 1 nd.length (HL.bools G),.int .i64 0,.int .i64 1,.int .i64 v,.sl nd.length (HL.bools S),.sl fl.length (HL.ints fl),.osl 1 nd.length (fZ (iK nd i 0))])],3⟩:St)) (fun i=>nd.length - i) 0 (by omega) rfl ?_
   intro i hi
   by_cases hin:i<nd.length
   ·have hlen:=h.g.len i
    have hrl:=fH (nd.getD i [])
    repeat (first|refine ah ?_|refine aN ?_|refine bK (by rfl) aT (by (try simp (disch:=omega) only [go_sem,dM]);try rfl) ?_|refine ag ?_|refine az ?_|refine aF ?_|refine ax ?_|refine ak ?_|refine ae ?_|refine aB ?_|refine aA ?_)
    refine bD [2,4,5,8,10,11,59,60,61,66,67,68] (fun k:Nat=>k<=(nd.getD i []).length)
     (fun k=>(⟨[(2,.pref 0 [] 0),(4,.pref 1 [] 0),(5,.int .i64 0),(8,.pref 2 [] 0),(10,.int .i64 i),(11,.sl (nd.getD i []).length (HL.ints (nl (nd.getD i [])))),(59,.sl nd.length (aZ (nd.map nl))),(60,.int .i64 nd.length),(61,.int .i64 i),(66,.sl (nd.getD i []).length (HL.ints (nl (nd.getD i [])))),(67,.int .i64 (nd.getD i []).length),(68,.int .i64 k)],[(0,.optr [.sl nd.length (HL.ints W),.sl nd.length (HL.ints C),.sl nd.length (aZ (nd.map nl)),.int .i64 B]),(1,.optr [.nils,.int .i64 0,.int .i64 0,.int .i64 0,.int .i64 0,.nils,.int .i64 0,.bool false]),(2,.optr [.sl nd.length (HL.ints W),.sl nd.length (HL.ints C),.sl nd.length (aZ (nd.map nl)),.int .i64 B,.int .i64 steps,.osl 1 nd.length (HL.bools G),.int .i64 0,.int .i64 1,.int .i64 v,.sl nd.length (HL.bools S),.sl fl.length (HL.ints fl),.osl 1 nd.length (fZ (iK nd i k))])],3⟩:St)) (fun k=>(nd.getD i []).length - k) 0 (by omega) rfl ?_
    intro k hk
    by_cases hkl:k<(nd.getD i []).length
    ·have hj:=h.g.lt i _ (getD_mem (nd.getD i []) k 0 hkl)
     have hul:=tH nd i k
     have hset:=F9 h.g i k hkl
     have hfew:=Dc nd i k ((nd.getD i []).getD k 0)
     rw [<- xN nd i k hj] at hset hfew
     repeat (first|refine ah ?_|refine aN ?_|refine bK (by rfl) aT mg ?_|refine ag ?_|refine az ?_|refine ax ?_|refine ak ?_|refine ae ?_|refine aB ?_|refine aA ?_)
     refine dO [2,4,5,8,10,11,13,59,60,61,66,67,68] (⟨[(2,.pref 0 [] 0),(4,.pref 1 [] 0),(5,.int .i64 0),(8,.pref 2 [] 0),(10,.int .i64 i),(11,.sl (nd.getD i []).length (HL.ints (nl (nd.getD i [])))),(13,.int .i64 ((nd.getD i []).getD k 0:Nat)),(59,.sl nd.length (aZ (nd.map nl))),(60,.int .i64 nd.length),(61,.int .i64 i),(66,.sl (nd.getD i []).length (HL.ints (nl (nd.getD i [])))),(67,.int .i64 (nd.getD i []).length),(68,.int .i64 k)],[(0,.optr [.sl nd.length (HL.ints W),.sl nd.length (HL.ints C),.sl nd.length (aZ (nd.map nl)),.int .i64 B]),(1,.optr [.nils,.int .i64 0,.int .i64 0,.int .i64 0,.int .i64 0,.nils,.int .i64 0,.bool false]),(2,.optr [.sl nd.length (HL.ints W),.sl nd.length (HL.ints C),.sl nd.length (aZ (nd.map nl)),.int .i64 B,.int .i64 steps,.osl 1 nd.length (HL.bools G),.int .i64 0,.int .i64 1,.int .i64 v,.sl nd.length (HL.bools S),.sl fl.length (HL.ints fl),.osl 1 nd.length (fZ (iK nd i k))])],3⟩:St) rfl ?_
     refine JZ (U:=iK nd i k) (U':=iK nd i (k+1)) hul hj (by omega) hset ?_
     repeat (first|refine ah ?_|refine ag ?_|refine bz ?_|refine ae ?_)
     exact bJ [2,4,5,8,10,11,59,60,61,66,67,68] (k+1) hkl (by omega) rfl
    ·obtain rfl:k=(nd.getD i []).length:=by omega
     rw [FI]
     repeat (first|refine ah ?_|refine ag ?_|refine az ?_|refine bz ?_|refine aO ?_|refine au ?_|refine ak ?_|refine ae ?_|refine dh ?_)
     exact bJ [2,4,5,8,59,60,61] (i+1) hin (by omega) rfl
   ·obtain rfl:i=nd.length:=by omega
    obtain ⟨us,hus⟩:∃us,iK nd nd.length 0=us:=⟨_,rfl⟩
    have hU:U7 nd us:=hus▸FN h.g
    have hUl:(us.map nl).length=nd.length:=by rw [List.length_map,hU.len]
    rw [hus]
    refine ak ?_
    refine ae ?_
    repeat (first|refine ag ?_|refine az ?_)
    refine ak ?_
    refine au ?_
    refine aO ?_
    refine jb 2 [2,4,5,8] (⟨[(2,.pref 0 [] 0),(4,.pref 1 [] 0),(5,.int .i64 0),(8,.pref 2 [] 0)],[(0,.optr [.sl nd.length (HL.ints W),.sl nd.length (HL.ints C),.sl nd.length (aZ (nd.map nl)),.int .i64 B]),(1,.optr [.nils,.int .i64 0,.int .i64 0,.int .i64 0,.int .i64 0,.nils,.int .i64 0,.bool false]),(2,.optr [.sl nd.length (HL.ints W),.sl nd.length (HL.ints C),.sl nd.length (aZ (nd.map nl)),.int .i64 B,.int .i64 steps,.sl nd.length (HL.bools G),.int .i64 0,.int .i64 1,.int .i64 v,.sl nd.length (HL.bools S),.sl fl.length (HL.ints fl),.sl nd.length (aZ (us.map nl))])],3⟩:St) rfl (congrArg (fun c:List HV×List HV×List HV×List HV×List HV×List HV×List HV=>(⟨[(2,.pref 0 [] 0),(4,.pref 1 [] 0),(5,.int .i64 0),(8,.pref 2 [] 0)],[(0,.optr [.sl nd.length (HL.ints W),.sl nd.length (HL.ints C),.sl nd.length (aZ (nd.map nl)),.int .i64 B]),(1,.optr [.nils,.int .i64 0,.int .i64 0,.int .i64 0,.int .i64 0,.nils,.int .i64 0,.bool false]),(2,.optr [.sl nd.length c.1,.sl nd.length c.2.1,.sl nd.length c.2.2.1,.int .i64 B,.int .i64 steps,.sl nd.length c.2.2.2.1,.int .i64 0,.int .i64 1,.int .i64 v,.sl nd.length c.2.2.2.2.1,.sl fl.length c.2.2.2.2.2.1,.sl nd.length c.2.2.2.2.2.2])],3⟩:St)) (hE3 G us)) ?_
    have hL0:Lst W C nd B ⟨steps,G,0,1,v,S,fl⟩:=⟨hm0,hw0,hSm,hLd,hv.symm⟩
    have hmul:=(yV (us:=us) h ⟨steps,G,0,1,v,S,fl⟩ hL0 hG).mono (K':=fun r outs=>∃s1,r=.tup []/\outs=[.optr [.sl nd.length (HL.ints W),.sl nd.length (HL.ints C),.sl nd.length (aZ (nd.map nl)),.int .i64 B,.int .i64 s1.steps,.sl nd.length (HL.bools s1.best),.int .i64 s1.num,.int .i64 s1.den,.int .i64 s1.value,.sl nd.length (HL.bools s1.set),.sl s1.flow.length (HL.ints s1.flow),.sl nd.length (aZ (us.map nl))]]/\Lst W C nd B s1/\Sel C nd B s1.best/\s1.steps=steps) (by
     rintro r o ⟨s1,rfl,rfl,a,b,c,d⟩
     refine ⟨s1,rfl,?_,a,b,d⟩
     simp only [pW,I,Bl,Gs,hlw,hlc,hnl,hUl,a.max.len,b.len])
    simp only [pW,I,Bl,Gs,hlw,hlc,hnl,hUl,hGl,hSl] at hmul
    repeat (first|refine ah ?_|refine ak ?_|refine ae ?_)
    refine pz [0] [2] aJ jH ug rfl (by decide) (hmul) ?_
    rintro _ _ ⟨s1,rfl,rfl,hL1,hS1,hst1⟩ -
    refine ⟨_,_,_,_,_,dw,(by decide),wV,?_⟩
    repeat (first|refine ag ?_)
    refine ak ?_
    refine ae ?_
    repeat (first|refine ah ?_|refine aH ?_|refine ag ?_|refine aF ?_|refine aC ?_|refine ku gU (by rfl) (by omega) bW bW ?_)
    have hEn:stripL (win (HL.bools (List.replicate nd.length false)) 0 (nd.length*1))=HL.bools (List.replicate nd.length false):=by rw [dJ _ (by simp),HL.bools_strip]
    refine kE 83 [2,4,5,8,14] (⟨[(2,.pref 0 [] 0),(4,.pref 1 [] 0),(5,.int .i64 0),(8,.pref 2 [] 0),(14,.sl nd.length (HL.bools (List.replicate nd.length false)))],[(0,.optr [.sl nd.length (HL.ints W),.sl nd.length (HL.ints C),.sl nd.length (aZ (nd.map nl)),.int .i64 B]),(1,.optr [.nils,.int .i64 0,.int .i64 0,.int .i64 0,.int .i64 0,.nils,.int .i64 0,.bool false]),(2,.optr [.sl nd.length (HL.ints W),.sl nd.length (HL.ints C),.sl nd.length (aZ (nd.map nl)),.int .i64 B,.int .i64 s1.steps,.sl nd.length (HL.bools s1.best),.int .i64 s1.num,.int .i64 s1.den,.int .i64 s1.value,.sl nd.length (HL.bools s1.set),.sl s1.flow.length (HL.ints s1.flow),.sl nd.length (aZ (us.map nl))])],3⟩:St) (congrArg (fun c:List HV=>(⟨[(2,.pref 0 [] 0),(4,.pref 1 [] 0),(5,.int .i64 0),(8,.pref 2 [] 0),(14,.sl nd.length c)],[(0,.optr [.sl nd.length (HL.ints W),.sl nd.length (HL.ints C),.sl nd.length (aZ (nd.map nl)),.int .i64 B]),(1,.optr [.nils,.int .i64 0,.int .i64 0,.int .i64 0,.int .i64 0,.nils,.int .i64 0,.bool false]),(2,.optr [.sl nd.length (HL.ints W),.sl nd.length (HL.ints C),.sl nd.length (aZ (nd.map nl)),.int .i64 B,.int .i64 s1.steps,.sl nd.length (HL.bools s1.best),.int .i64 s1.num,.int .i64 s1.den,.int .i64 s1.value,.sl nd.length (HL.bools s1.set),.sl s1.flow.length (HL.ints s1.flow),.sl nd.length (aZ (us.map nl))])],3⟩:St)) hEn) ?_
    have hz:(List.replicate nd.length false).length=nd.length:=by simp
    have hfz:∀u:Nat,(List.replicate nd.length false).getD u false=false:=DJ nd.length
    have hbr:=(II h hU (nd.length+1) s1 (List.replicate nd.length false) (List.replicate nd.length false) (by have:=rZ (free (List.replicate nd.length false) (List.replicate nd.length false)) nd.length;omega) ⟨hL1.mul,hL1.wok,hS1,by omega,hz,qU _,hz,fun u k _ _ hk=>by rw [hfz] at hk;cases hk⟩).mono (K':=fun r outs=>∃b s2,r=.bool b/\outs=[.optr [.sl nd.length (HL.ints W),.sl nd.length (HL.ints C),.sl nd.length (aZ (nd.map nl)),.int .i64 B,.int .i64 s2.steps,.sl nd.length (HL.bools s2.best),.int .i64 s2.num,.int .i64 s2.den,.int .i64 s2.value,.sl nd.length (HL.bools s2.set),.sl s2.flow.length (HL.ints s2.flow),.sl nd.length (aZ (us.map nl))]]/\BrR W C nd B (List.replicate nd.length false) (List.replicate nd.length false) s1 s2 b) (by
     rintro r o ⟨b,s2,rfl,rfl,hB⟩
     have hs2:s2.set.length=nd.length:=by rw [hB.same];exact hL1.max.len
     refine ⟨b,s2,rfl,?_,hB⟩
     simp only [pW,I,Bl,Gs,hlw,hlc,hnl,hUl,hB.sel.len,hs2])
    have hb1:=hS1.len
    have hs1l:=hL1.max.len
    simp only [pW,I,Bl,Gs,hlw,hlc,hnl,hUl,hb1,hs1l,hz] at hbr
    repeat (first|refine ah ?_|refine ae ?_)
    refine pz [0] [2] aJ jH ug rfl (by decide) (hbr) ?_
    rintro _ _ ⟨b,s2,rfl,rfl,hBr⟩ -
    refine ⟨_,_,_,_,_,dw,(by decide),wV,?_⟩
    repeat (first|refine ah ?_|refine ag ?_)
    refine dO [2,4,5,8,9] _ rfl (key (s2,us,b) ⟨?_,hBr.sel,fun hb X hX=>hBr.all hb X ⟨hX,(fun u hu=>absurd hu (by rw [hfz];decide)),(fun u hu=>absurd hu (by rw [hfz];decide))⟩,fun h1 h2=>(hBr.enough ?_).1,fun ha=>absurd ha ?_⟩)
    ·simp only
     rw [hBr.same]
     exact ⟨hL1.mul,hL1.wok,hL1.max,hL1.dual,hL1.val⟩
    ·have h3:=yF (Nat.le_trans (rZ (free (List.replicate nd.length false) (List.replicate nd.length false)) nd.length) h2)
     have h4:ES 9=1023:=rfl
     omega
    ·have:=BQ (fun i=>(h.c i).1) (X:=S) (Y:=List.replicate nd.length true) (fun u hu=>by
      by_cases h:u<nd.length
      ·exact EZ h
      ·rw [List.getD_eq_getElem?_getD,List.getElem?_eq_none (by omega)] at hu;cases hu) nd.length
     omega
 ·rintro ⟨s,us,b⟩ hF
  simp only at hF ⊢
  have hbl:=hF.sel.len
  have o1:=fD W s.best h.wok (by omega) (by omega)
  have o2:=fD C s.best h.cok (by omega) (by omega)
  simp only [I,Bl,hlc,hlw,hbl] at o1 o2
  refine ak ?_
  refine bQ bi bi (Ik nd.length) ?_
  repeat (first|refine ah ?_|refine aH ?_|refine aC ?_|refine cZ fP rfl ?_)
  refine bG aJ dI (o1.mono fun r h=>⟨W,s.best,rfl,h⟩) ⟨_,⟨W,s.best,rfl,rfl⟩,rfl⟩ ?_
  rintro r hr -
  obtain rfl:=gz hr
  refine ⟨dE,_,_,_,_,_,dw,(by decide),aQ,?_⟩
  repeat (first|refine ah ?_|refine aH ?_|refine aC ?_|refine cZ fP rfl ?_)
  refine bG aJ dI (o2.mono fun r h=>⟨C,s.best,rfl,h⟩) ⟨_,⟨C,s.best,rfl,rfl⟩,rfl⟩ ?_
  rintro r hr -
  obtain rfl:=gz hr
  refine ⟨dE,_,_,_,_,_,dw,(by decide),aQ,?_⟩
  repeat (first|refine ah ?_|refine aH ?_|refine ag ?_|refine aC ?_|refine dn ?_|refine cZ fP rfl ?_|refine nC ng nD (by simp [iU]) ?_)
  refine ay ?_
  exact ⟨_,_,rfl,rfl,s,b,rfl,hF⟩
end Go.Proofs.Yteamkjblpglliaa
