import Derived.Test.YteamkjblpglliaaAbV
import Derived.Test.YteamkjblpglliaaHlDn
set_option linter.unusedSimpArgs false
set_option linter.unusedVariables false
namespace Go.Proofs.Yteamkjblpglliaa
open Go.RowKit Go.SL Go.HL
theorem iR (l:List Int) (set:List Bool) (hl:WOK l) (hls:set.length=l.length) (hn:set.length<=100000):HT Try.prog 22 [I l,Bl set] (fun r=>r=.int .i64 (wS l set set.length)):=by
 refine HT.of rfl aeZ (Nat.le_of_ble_eq_true rfl) ?_
 unfold c22
 simp only [I,Bl,aO,Nat.reduceAdd]
 rw [<- hls]
 repeat (first|refine ah ?_|refine ag ?_|refine ak ?_|refine ae ?_|refine aC ?_)
 refine bH [0,1,5,6] (fun i:Nat=>i<=set.length)
  (fun i=>⟨[(0,.sl set.length (HL.ints l)),(1,.sl set.length (HL.bools set)),(5,.int .i64 (wS l set i)),(6,.int .i64 i)],[],0⟩) (fun i=>set.length - i) 0 (by omega) rfl ?_
 intro i hi
 by_cases hil:i < set.length
 ·have hbd:=zt hl set i
  have hx:=hl i
  have hnx:wS l set (i+1)=wS l set i+if set.getD i false then l.getD i 0 else 0:=rfl
  obtain ⟨x,hxe⟩:∃x,l.getD i 0=x:=⟨_,rfl⟩
  rw [hxe] at hx hnx
  cases hb:set.getD i false with
  | true =>
   rw [hb,if_pos rfl] at hnx
   repeat (first|refine ah ?_|refine aH ?_|refine aN ?_|refine bK (by rfl) aV (by (try simp (disch:=omega) only [go_sem,hb,hxe]);try rfl) ?_|refine ag ?_|refine az ?_|refine aJ ?_|refine dn (by rfl) (by rfl) (by (try simp (disch:=omega) only [go_sem,Int.reduceAdd,Int.reduceSub,Int.reduceMul,hb,hxe]);try rfl) ?_|refine aG ?_|refine ax ?_|refine ak ?_|refine ae ?_|refine aC ?_|refine dm ?_|refine aB ?_)
   exact bQ [0,1,5,6] (i+1) hil (by omega) (by rw [hnx];rfl)
  | false =>
   rw [hb,if_neg (by decide),Int.add_zero] at hnx
   repeat (first|refine ah ?_|refine aH ?_|refine aN ?_|refine bK (by rfl) aV (by (try simp (disch:=omega) only [go_sem,hb]);try rfl) ?_|refine ag ?_|refine az ?_|refine aJ ?_|refine dn (by rfl) (by rfl) (by (try simp (disch:=omega) only [go_sem,Int.reduceAdd,Int.reduceSub,Int.reduceMul,hb]);try rfl) ?_|refine aG ?_|refine ax ?_|refine au ?_|refine ak ?_|refine ae ?_|refine aC ?_|refine dm ?_|refine aB ?_)
   exact bQ [0,1,5,6] (i+1) hil (by omega) (by rw [hnx];rfl)
 ·obtain rfl:i=set.length:=by omega
  repeat (first|refine ah ?_|refine bT ?_|refine ag ?_|refine az ?_|refine aI ?_|refine aG ?_|refine bz (by rfl) ?_|refine au ?_|refine ak ?_|refine ae ?_)
  refine ay ?_
  rfl
theorem yx (a b:List Bool) (h1:a.length<=9223372036854775807) (h2:b.length<=9223372036854775807):HT Try.prog 21 [Bl a,Bl b] (fun r=>r=.bool (decide (a=b))):=by
 refine HT.of rfl aeB (Nat.le_of_ble_eq_true rfl) ?_
 unfold c21
 simp only [Bl,aO,Nat.reduceAdd]
 by_cases hab:a.length=b.length
 ·repeat (first|refine ah ?_|refine ag ?_|refine aY ?_|refine aG ?_|refine au ?_|refine ak ?_|refine ae ?_|refine aC ?_|refine aB ?_)
  refine bH [0,1,5] (fun i:Nat=>i<=a.length/\a.take i=b.take i)
   (fun i=>⟨[(0,.sl a.length (HL.bools a)),(1,.sl b.length (HL.bools b)),(5,.int .i64 i)],[],0⟩) (fun i=>a.length - i) 0 ⟨by omega,by simp⟩ rfl ?_
  rintro i ⟨hi,hE⟩
  by_cases hil:i < a.length
  ·have ta:=cO a i false hil
   have tb:=cO b i false (by omega)
   obtain ⟨x,hx⟩:∃x,a.getD i false=x:=⟨_,rfl⟩
   obtain ⟨y,hy⟩:∃x,b.getD i false=x:=⟨_,rfl⟩
   by_cases hxy:x=y
   ·subst hxy
    repeat (first|refine ah ?_|refine ag ?_|refine az ?_|refine aG ?_|refine ax ?_|refine ak ?_|refine ae ?_|refine aC ?_|refine aB ?_)
    refine bU aU aU (fun _ _ _=>False) ?_
    repeat (first|refine ah ?_|refine aN ?_|refine bK (by rfl) aV (by (try simp (disch:=omega) only [go_sem,hx,hy]);try rfl) ?_|refine ag ?_|refine dn (by rfl) (by rfl) (by (try simp (disch:=omega) only [go_sem,Int.reduceAdd,Int.reduceSub,Int.reduceMul,hx,hy]);try rfl) ?_|refine au ?_|refine ae ?_|refine dm ?_|refine aB ?_|refine wC (by rfl) (by rfl) (by (try simp only [go_sem,reduceIte,hx,hy]);try rfl) ?_)
    exact bQ [0,1,5] (i+1) ⟨hil,by rw [ta,tb,hE,hx,hy]⟩ (by omega) rfl
   ·have hne:(x == y)=false:=by simpa using hxy
    repeat (first|refine ah ?_|refine ag ?_|refine az ?_|refine aG ?_|refine ax ?_|refine ak ?_|refine ae ?_|refine aC ?_|refine aB ?_)
    refine bU aU aU (fun _ _ _=>False) ?_
    repeat (first|refine ah ?_|refine aN ?_|refine bK (by rfl) aV (by (try simp (disch:=omega) only [go_sem,hx,hy,hne]);try rfl) ?_|refine ag ?_|refine ax ?_|refine ak ?_|refine ae ?_|refine wC (by rfl) (by rfl) (by (try simp only [go_sem,reduceIte,hx,hy,hne]);try rfl) ?_)
    refine ay ?_
    have:a≠b:=fun e=>hxy (by rw [<- hx,<- hy,e])
    simp [dN,this]
  ·obtain rfl:i=a.length:=by omega
   rw [List.take_length,hab,List.take_length] at hE
   repeat (first|refine ah ?_|refine ag ?_|refine az ?_|refine aG ?_|refine bz (by rfl) ?_|refine au ?_|refine ak ?_|refine ae ?_)
   refine ay ?_
   simp [dN,hE]
 ·have:a≠b:=fun e=>hab (by rw [e])
  repeat (first|refine ah ?_|refine ag ?_|refine aY ?_|refine aG ?_|refine ax ?_|refine ak ?_|refine ae ?_)
  refine ay ?_
  simp [dN,this]
def vF (b:Int) (k:Nat):List Bool:=(List.range k).map fun i=>decide (b.fdiv (2 ^ i) % 2=1)
theorem Jr (b:Int) (k:Nat):vF b (k+1)=vF b k ++ [decide (b.fdiv (2 ^ k) % 2=1)]:=by simp [vF,List.range_succ]
theorem qO (b:Int) (k:Nat):(vF b k).length=k:=by simp [vF]
theorem xQ:∀ (k b i:Nat),i < k->(gz b k).getD i false=decide (b / 2 ^ i % 2=1)
 | 0,_,_,h=>by omega
 | k+1,b,0,_=>by simp [gz]
 | k+1,b,i+1,h=>by
  have:=xQ k (b / 2) i (by omega)
  simp only [gz,List.getD_cons_succ,this]
  rw [Nat.div_div_eq_div_mul,Nat.pow_succ,Nat.mul_comm 2]
theorem Ld (b k:Nat):vF (b:Int) k=gz b k:=by
 apply List.ext_getElem
 ·rw [qO,nT]
 ·intro i h1 h2
  rw [qO] at h1
  have e2:=gI (d:=false) h2
  rw [<- e2,xQ k b i h1]
  simp only [vF,List.getElem_map,List.getElem_range]
  have:(b:Int).fdiv (2 ^ i) % 2=((b / 2 ^ i % 2:Nat):Int):=by
   rw [Int.fdiv_eq_ediv_of_nonneg _ (Int.le_of_lt (Int.pow_pos (by omega)))]
   simp
  rw [this]
  by_cases h:b / 2 ^ i % 2=1
  ·rw [decide_eq_true h,h];rfl
  ·rw [decide_eq_false h]
   have:b / 2 ^ i % 2=0:=by omega
   rw [this];rfl
theorem KQ (a:Int):IntKind.i64.wrap ((BitVec.ofInt 64 a &&& BitVec.ofInt 64 1).toNat)=a % 2:=by
 have h0:(BitVec.ofInt 64 a &&& BitVec.ofInt 64 1).toNat=(a % 2).toNat:=by
  rw [BitVec.toNat_and]
  have e1:(BitVec.ofInt 64 (1:Int)).toNat=1:=by decide
  rw [e1,Nat.and_one_is_mod,BitVec.toNat_ofInt]
  omega
 rw [h0]
 have h1:=Int.emod_nonneg a (show (2:Int)≠0 by omega)
 have h2:=Int.emod_lt_of_pos a (show (0:Int) < 2 by omega)
 rcases (show a % 2=0\/a % 2=1 by omega) with h|h <;> rw [h] <;> decide
theorem MN {b:Int} (h1 : -9223372036854775808<=b) (h2:b<=9223372036854775807) (i:Nat) : -9223372036854775808<=b.fdiv (2 ^ i)/\b.fdiv (2 ^ i)<=9223372036854775807:=by
 have hp:(0:Int) < 2 ^ i:=Int.pow_pos (by omega)
 rw [Int.fdiv_eq_ediv_of_nonneg _ (Int.le_of_lt hp)]
 constructor
 ·refine (Int.le_ediv_iff_mul_le hp).2 ?_
  have : -9223372036854775808 * (2:Int) ^ i <= -9223372036854775808 * 1:=Int.mul_le_mul_of_nonpos_left (by omega) (by omega)
  omega
 ·rcases Int.le_total 0 b with h|h
  ·exact Int.le_trans (Int.ediv_le_self _ h) h2
  ·have:=Int.ediv_le_ediv hp h
   rw [Int.zero_ediv] at this
   omega
set_option maxHeartbeats 2000000 in
theorem yl (n:Nat) (b:Int) (hn:n<=64) (h1 : -9223372036854775808<=b) (h2:b<=9223372036854775807):HT Try.prog 24 [.int .i64 n,.int .i64 b] (fun r=>r=.osl 1 n (HL.bools (vF b n))):=by
 refine HT.of rfl aew (Nat.le_of_ble_eq_true rfl) ?_
 unfold c24
 simp only [aO,Nat.reduceAdd]
 repeat (first|refine ah ?_|refine ag ?_|refine ak ?_|refine ae ?_|refine aC ?_|refine fM rfl (by rfl) gY ?_)
 refine bH [0,1,5,6] (fun i:Nat=>i<=n)
  (fun i=>⟨[(0,.int .i64 n),(1,.int .i64 b),(5,.ref 0 [] 1 0 i),(6,.int .i64 i)],[(0,.osl 1 i (HL.bools (vF b i)))],1⟩) (fun i=>n - i) 0 (by omega) rfl ?_
 intro i hi
 by_cases hin:i < n
 ·have hm:min i IntKind.i64.bits=i:=by show min i 64=i;omega
  have hm2:min i 64=i:=by omega
  have hu:IntKind.u64.wrap (i:Int)=i:=by
   have:∀j,j < 64->IntKind.u64.wrap ((j:Nat):Int)=j:=by decide +kernel
   exact this i (by omega)
  have hfr:=MN h1 h2 i
  have hand:=KQ (b.fdiv (2 ^ i))
  have hsn:∀z:Bool,HL.bools (vF b i) ++ [HV.bool z]=HL.bools (vF b i ++ [z]):=fun z=>by simp [HL.bools]
  have hXl:(HL.bools (vF b i)).length=i:=by rw [HL.bools_len,qO]
  have hXn:=qO b i
  have hnx:=Jr b i
  by_cases hz:b.fdiv (2 ^ i) % 2=1
  ·rw [decide_eq_true hz] at hnx
   rw [hz] at hand
   repeat (first|refine ah ?_|refine ag ?_|refine az ?_|refine ax ?_|refine ak ?_|refine ae ?_|refine aC ?_|refine aB ?_)
   refine AP (by rfl) (by (try simp (disch:=omega) only [go_sem,Int.reduceAdd,Int.reduceSub,Int.reduceMul,hu]);try rfl) ?_
   refine O9 (by rfl) (by rfl) (by omega) (by (try simp (disch:=omega) only [go_sem,Int.reduceAdd,Int.reduceSub,Int.reduceMul,hm,hm2]);try rfl) ?_
   refine O1 (by rfl) (by rfl) hand ?_
   repeat (first|refine ah ?_|refine ag ?_|refine aX ?_|refine dn (by rfl) (by rfl) (by (try simp (disch:=omega) only [go_sem,Int.reduceAdd,Int.reduceSub,Int.reduceMul,hsn]);try rfl) ?_|refine ae ?_|refine dm ?_|refine dS ?_|refine jC gY (by rfl) gy Et (by (try simp (disch:=omega) only [go_sem,reduceIte,Nat.reduceEqDiff,Nat.reduceAdd,Nat.reduceMul,hsn]);try omega) dK (by (try simp (disch:=omega) only [go_sem,reduceIte,Nat.reduceEqDiff,Nat.reduceAdd,Nat.reduceMul,hsn]);try rfl) gY (by omega) kQ aV (by (try simp (disch:=omega) only [go_sem,reduceIte,Nat.reduceEqDiff,Nat.reduceAdd,Nat.reduceMul,hsn]);try rfl) di ?_)
   exact bQ [0,1,5,6] (i+1) hin (by omega) (by rw [hnx];rfl)
  ·have hz0:b.fdiv (2 ^ i) % 2=0:=by omega
   rw [decide_eq_false hz] at hnx
   rw [hz0] at hand
   repeat (first|refine ah ?_|refine ag ?_|refine az ?_|refine ax ?_|refine ak ?_|refine ae ?_|refine aC ?_|refine aB ?_)
   refine AP (by rfl) (by (try simp (disch:=omega) only [go_sem,Int.reduceAdd,Int.reduceSub,Int.reduceMul,hu]);try rfl) ?_
   refine O9 (by rfl) (by rfl) (by omega) (by (try simp (disch:=omega) only [go_sem,Int.reduceAdd,Int.reduceSub,Int.reduceMul,hm,hm2]);try rfl) ?_
   refine O1 (by rfl) (by rfl) hand ?_
   repeat (first|refine ah ?_|refine ag ?_|refine aX ?_|refine dn (by rfl) (by rfl) (by (try simp (disch:=omega) only [go_sem,Int.reduceAdd,Int.reduceSub,Int.reduceMul,hsn]);try rfl) ?_|refine ae ?_|refine dm ?_|refine dS ?_|refine jC gY (by rfl) gy Et (by (try simp (disch:=omega) only [go_sem,reduceIte,Nat.reduceEqDiff,Nat.reduceAdd,Nat.reduceMul,hsn]);try omega) dK (by (try simp (disch:=omega) only [go_sem,reduceIte,Nat.reduceEqDiff,Nat.reduceAdd,Nat.reduceMul,hsn]);try rfl) gY (by omega) kQ aV (by (try simp (disch:=omega) only [go_sem,reduceIte,Nat.reduceEqDiff,Nat.reduceAdd,Nat.reduceMul,hsn]);try rfl) di ?_)
   exact bQ [0,1,5,6] (i+1) hin (by omega) (by rw [hnx];rfl)
 ·obtain rfl:i=n:=by omega
  repeat (first|refine ah ?_|refine ag ?_|refine az ?_|refine bz (by rfl) ?_|refine au ?_|refine ak ?_|refine ae ?_)
  refine ay ?_
  rfl
set_option maxHeartbeats 4000000 in
theorem yM {W C:List Int} {nd:List (List Nat)} {B:Int} (h:Pb W C nd B) (set:List Bool) (hs:set.length<=9223372036854775807):HT Try.prog 30 [.agg (jX W C nd B),Bl set] (fun r=>∃b,r=.bool b/\(b=true <-> Sel C nd B set)):=by
 have hsz:=h.g.size
 have hlw:=h.lw
 have hlc:=h.lc
 have hnl:(nd.map nl).length=nd.length:=by simp
 have hcl:=FQ (nd.map nl) set (by omega) hs (fun i=>by rw [dM,fE];have:=h.g.len i;omega)
 simp only [Gs,Bl,hnl] at hcl
 refine HT.of rfl adN (Nat.le_of_ble_eq_true rfl) ?_
 unfold c30
 simp only [I,Gs,Bl,jX,aO,Nat.reduceAdd,hlw,hlc,hnl]
 repeat (first|refine ah ?_|refine ag ?_|refine ak ?_|refine ae ?_|refine eu ?_)
 refine bU aU aU (fun f _ r=>if f=22 then r=.int .i64 (wS C set nd.length) else r=.bool (jg (nd.map nl) set)) ?_
 repeat (first|refine ah ?_|refine aF ?_|refine aA ?_)
 refine bF aK dO (hcl.mono fun r h=>h) ⟨.bool (jg (nd.map nl) set),rfl,rfl⟩ ?_
 rintro r hr -
 obtain rfl:r=.bool (jg (nd.map nl) set):=hr
 refine ⟨dF,_,_,_,_,_,dA,(by decide),aQ,?_⟩
 cases hcb:jg (nd.map nl) set with
 | false =>
  repeat (first|refine ah ?_|refine bT ?_|refine ag ?_|refine aI ?_)
  refine ay ?_
  refine ⟨false,rfl,(fun h=>absurd h (by decide)),(fun hS=>?_)⟩
  rw [(kS (oP h.g hS.len)).2 (closedN_Y.2 hS.closed)] at hcb
  cases hcb
 | true =>
  have hf:jW (nd.map nl) set=true:=by
   cases hf:jW (nd.map nl) set with
   | true=>rfl
   | false=>unfold jg at hcb;rw [hf] at hcb;cases hcb
  have hl:set.length=nd.length:=by rw [<- (rC hf).1,hnl]
  have hC:=closedN_Y.1 ((kS hf).1 hcb)
  have o1:=(iR C set h.cok (by omega) (by omega)).mono (K':=fun r=>r=.int .i64 (wS C set nd.length)) (fun r h=>by rw [h,hl])
  simp only [I,Bl,hlc] at o1
  repeat (first|refine ah ?_|refine aH ?_|refine aF ?_|refine aA ?_)
  refine bF aK dO (o1.mono fun r h=>h) ⟨.int .i64 (wS C set nd.length),rfl,rfl⟩ ?_
  rintro r hr -
  obtain rfl:r=.int .i64 (wS C set nd.length):=hr
  refine ⟨dF,_,_,_,_,_,dA,(by decide),aQ,?_⟩
  by_cases hc:wS C set nd.length<=B
  ·repeat (first|refine ah ?_|refine aH ?_|refine aF ?_|refine ag ?_|refine aJ ?_|refine dI ?_|refine aA ?_)
   refine ay ?_
   exact ⟨true,rfl,fun _=>⟨hl,hC,hc⟩,fun _=>rfl⟩
  ·repeat (first|refine ah ?_|refine aH ?_|refine aF ?_|refine ag ?_|refine aJ ?_|refine dI ?_|refine aA ?_)
   refine ay ?_
   exact ⟨false,rfl,(fun h=>absurd h (by decide)),(fun hS=>absurd hS.cost hc)⟩
set_option maxHeartbeats 8000000 in
theorem CB {W C:List Int} {nd:List (List Nat)} {B:Int} (h:Pb W C nd B) (a b:List Bool) (ha:a.length=nd.length) (hb:b.length=nd.length):HT Try.prog 31 [.agg (jX W C nd B),Bl a,Bl b] (fun r=>r=.bool (lU W C nd.length a b)):=by
 have hsz:=h.g.size
 have hlw:=h.lw
 have hlc:=h.lc
 have hnl:(nd.map nl).length=nd.length:=by simp
 have o1:=iR W a h.wok (by omega) (by omega)
 have o2:=iR W b h.wok (by omega) (by omega)
 have o3:=iR C a h.cok (by omega) (by omega)
 have o4:=iR C b h.cok (by omega) (by omega)
 simp only [I,Bl,hlw,hlc,ha,hb] at o1 o2 o3 o4
 refine HT.of rfl adS (Nat.le_of_ble_eq_true rfl) ?_
 unfold c31
 simp only [jX,I,Bl,Gs,aO,Nat.reduceAdd,hlw,hlc,ha,hb,hnl]
 repeat (first|refine ah ?_|refine ag ?_|refine ak ?_|refine ae ?_|refine eu ?_)
 refine bU aU aU (Bj nd.length) ?_
 repeat (first|refine ah ?_|refine aF ?_|refine aA ?_)
 refine bF aK dO (o1.mono fun r h=>⟨W,a,rfl,h⟩) ⟨_,⟨W,a,rfl,rfl⟩,rfl⟩ ?_
 rintro r hr -
 obtain rfl:=dP hr
 refine ⟨dF,_,_,_,_,_,dA,(by decide),aQ,?_⟩
 repeat (first|refine ah ?_|refine aF ?_|refine aA ?_)
 refine bF aK dO (o2.mono fun r h=>⟨W,b,rfl,h⟩) ⟨_,⟨W,b,rfl,rfl⟩,rfl⟩ ?_
 rintro r hr -
 obtain rfl:=dP hr
 refine ⟨dF,_,_,_,_,_,dA,(by decide),aQ,?_⟩
 by_cases e1:wS W a nd.length=wS W b nd.length
 ·have key:lU W C nd.length a b=if wS C a nd.length=wS C b nd.length then lexB a b else decide (wS C a nd.length < wS C b nd.length):=by rw [lU,if_pos e1]
  rw [key]
  repeat (first|refine ag ?_|refine aY ?_|refine au ?_|refine ak ?_|refine aB ?_)
  refine bU aU aU (Bj nd.length) ?_
  repeat (first|refine ah ?_|refine aF ?_|refine aA ?_)
  refine bF aK dO (o3.mono fun r h=>⟨C,a,rfl,h⟩) ⟨_,⟨C,a,rfl,rfl⟩,rfl⟩ ?_
  rintro r hr -
  obtain rfl:=dP hr
  refine ⟨dF,_,_,_,_,_,dA,(by decide),aQ,?_⟩
  repeat (first|refine ah ?_|refine aF ?_|refine aA ?_)
  refine bF aK dO (o4.mono fun r h=>⟨C,b,rfl,h⟩) ⟨_,⟨C,b,rfl,rfl⟩,rfl⟩ ?_
  rintro r hr -
  obtain rfl:=dP hr
  refine ⟨dF,_,_,_,_,_,dA,(by decide),aQ,?_⟩
  by_cases e2:wS C a nd.length=wS C b nd.length
  ·rw [if_pos e2]
   repeat (first|refine ah ?_|refine ag ?_|refine aY ?_|refine au ?_|refine ak ?_|refine ae ?_|refine aC ?_|refine aB ?_)
   refine bH [1,2,3,7] (fun i:Nat=>i<=nd.length/\lexB a b=lexB (a.drop i) (b.drop i))
    (fun i=>⟨[(1,.sl nd.length (HL.bools a)),(2,.sl nd.length (HL.bools b)),(3,.pref 0 [] 0),(7,.int .i64 i)],[(0,.optr [.sl nd.length (HL.ints W),.sl nd.length (HL.ints C),.sl nd.length (bf (nd.map nl)),.int .i64 B])],1⟩) (fun i=>nd.length - i) 0 ⟨by omega,rfl⟩ rfl ?_
   rintro i ⟨hi,hE⟩
   by_cases hil:i < nd.length
   ·have dx:=su a i (by omega)
    have dy:=su b i (by omega)
    obtain ⟨x,hx⟩:∃x,a.getD i false=x:=⟨_,rfl⟩
    obtain ⟨y,hy⟩:∃x,b.getD i false=x:=⟨_,rfl⟩
    rw [hx] at dx
    rw [hy] at dy
    rw [dx,dy,lexB] at hE
    by_cases hxy:x=y
    ·subst hxy
     rw [if_pos rfl] at hE
     repeat (first|refine ah ?_|refine ag ?_|refine az ?_|refine aG ?_|refine ax ?_|refine ak ?_|refine ae ?_|refine aC ?_|refine aB ?_)
     refine bU aU aU (fun _ _ _=>False) ?_
     repeat (first|refine ah ?_|refine aN ?_|refine bK (by rfl) aV (by (try simp (disch:=omega) only [go_sem,hx,hy]);try rfl) ?_|refine ag ?_|refine dn (by rfl) (by rfl) (by (try simp (disch:=omega) only [go_sem,Int.reduceAdd,Int.reduceSub,Int.reduceMul,hx,hy]);try rfl) ?_|refine au ?_|refine ae ?_|refine dm ?_|refine aB ?_|refine wC (by rfl) (by rfl) (by (try simp only [go_sem,reduceIte,hx,hy]);try rfl) ?_)
     exact bQ [1,2,3,7] (i+1) ⟨hil,hE⟩ (by omega) rfl
    ·have hne:(x == y)=false:=by simpa using hxy
     rw [if_neg hxy] at hE
     rw [hE]
     repeat (first|refine ah ?_|refine ag ?_|refine az ?_|refine aG ?_|refine ax ?_|refine ak ?_|refine ae ?_|refine aC ?_|refine aB ?_)
     refine bU aU aU (fun _ _ _=>False) ?_
     repeat (first|refine ah ?_|refine aN ?_|refine bK (by rfl) aV (by (try simp (disch:=omega) only [go_sem,hx,hy,hne]);try rfl) ?_|refine ag ?_|refine ax ?_|refine ak ?_|refine ae ?_|refine wC (by rfl) (by rfl) (by (try simp only [go_sem,reduceIte,hx,hy,hne]);try rfl) ?_|refine wI (by rfl) (by (try simp only [go_sem,reduceIte,hx,hy,hne]);try rfl) ?_)
     refine ay ?_
     rfl
   ·obtain rfl:i=nd.length:=by omega
    rw [List.drop_of_length_le (by omega),List.drop_of_length_le (by omega)] at hE
    rw [hE]
    repeat (first|refine ah ?_|refine ag ?_|refine az ?_|refine aG ?_|refine bz (by rfl) ?_|refine au ?_|refine ak ?_|refine ae ?_)
    refine ay ?_
    rfl
  ·rw [if_neg e2]
   repeat (first|refine ag ?_|refine aY ?_|refine ax ?_|refine ak ?_)
   refine bU aU aU (Bj nd.length) ?_
   repeat (first|refine ah ?_|refine aF ?_|refine aA ?_)
   refine bF aK dO (o3.mono fun r h=>⟨C,a,rfl,h⟩) ⟨_,⟨C,a,rfl,rfl⟩,rfl⟩ ?_
   rintro r hr -
   obtain rfl:=dP hr
   refine ⟨dF,_,_,_,_,_,dA,(by decide),aQ,?_⟩
   repeat (first|refine ah ?_|refine aF ?_|refine aA ?_)
   refine bF aK dO (o4.mono fun r h=>⟨C,b,rfl,h⟩) ⟨_,⟨C,b,rfl,rfl⟩,rfl⟩ ?_
   rintro r hr -
   obtain rfl:=dP hr
   refine ⟨dF,_,_,_,_,_,dA,(by decide),aQ,?_⟩
   repeat (first|refine ah ?_|refine ag ?_|refine az ?_)
   refine ay ?_
   rfl
 ·have key:lU W C nd.length a b=decide (wS W b nd.length < wS W a nd.length):=by rw [lU,if_neg e1]
  rw [key]
  repeat (first|refine ag ?_|refine aY ?_|refine ax ?_|refine ak ?_)
  refine bU aU aU (Bj nd.length) ?_
  repeat (first|refine ah ?_|refine aF ?_|refine aA ?_)
  refine bF aK dO (o1.mono fun r h=>⟨W,a,rfl,h⟩) ⟨_,⟨W,a,rfl,rfl⟩,rfl⟩ ?_
  rintro r hr -
  obtain rfl:=dP hr
  refine ⟨dF,_,_,_,_,_,dA,(by decide),aQ,?_⟩
  repeat (first|refine ah ?_|refine aF ?_|refine aA ?_)
  refine bF aK dO (o2.mono fun r h=>⟨W,b,rfl,h⟩) ⟨_,⟨W,b,rfl,rfl⟩,rfl⟩ ?_
  rintro r hr -
  obtain rfl:=dP hr
  refine ⟨dF,_,_,_,_,_,dA,(by decide),aQ,?_⟩
  repeat (first|refine ah ?_|refine ag ?_|refine bu ?_)
  refine ay ?_
  rfl
structure BestS (W C:List Int) (nd:List (List Nat)) (B:Int) (k:Nat) (S:List Bool):Prop where
 sel:Sel C nd B S
 all:∀j,j < k->Sel C nd B (gz j nd.length)->lU W C nd.length (gz j nd.length) S=false
theorem BestS.most {W C:List Int} {nd:List (List Nat)} {B:Int} {S:List Bool} (h:BestS W C nd B (2 ^ nd.length) S) {X:List Bool} (hX:Sel C nd B X):lU W C nd.length X S=false:=by
 obtain ⟨b,hb,he⟩:=vI X
 rw [hX.len] at hb he
 have:=h.all b hb (by rw [he];exact hX)
 rwa [he] at this
theorem Sel.none {C:List Int} {nd:List (List Nat)} {B:Int} (hB:0<=B):Sel C nd B (List.replicate nd.length false) :=
 ⟨by simp,qI _,by rw [uH];exact hB⟩
theorem xZ:∀k,gz 0 k=List.replicate k false
 | 0=>rfl
 | k+1=>by rw [gz,Nat.zero_div,xZ k,List.replicate_succ];rfl
theorem BestS.one {W C:List Int} {nd:List (List Nat)} {B:Int} (hB:0<=B):BestS W C nd B 1 (List.replicate nd.length false) :=
 ⟨Sel.none hB,fun j hj _=>by
  obtain rfl:j=0:=by omega
  rw [xZ];exact xk _ _ _ _⟩
theorem BestS.keep {W C:List Int} {nd:List (List Nat)} {B:Int} {k:Nat} {S:List Bool} (h:BestS W C nd B k S) (h2:Sel C nd B (gz k nd.length)->lU W C nd.length (gz k nd.length) S=false):BestS W C nd B (k+1) S :=
 ⟨h.sel,fun j hj hs=>by
  by_cases e:j=k
  ·subst e;exact h2 hs
  ·exact h.all j (by omega) hs⟩
theorem BestS.take {W C:List Int} {nd:List (List Nat)} {B:Int} {k:Nat} {S:List Bool} (h:BestS W C nd B k S) (h1:Sel C nd B (gz k nd.length)) (h2:lU W C nd.length (gz k nd.length) S=true):BestS W C nd B (k+1) (gz k nd.length) :=
 ⟨h1,fun j hj hs=>by
  by_cases e:j=k
  ·subst e;exact xk _ _ _ _
  ·have h3:=h.all j (by omega) hs
   cases hx:lU W C nd.length (gz j nd.length) (gz k nd.length) with
   | false=>rfl
   | true =>
    rw [zD (by rw [hs.len,h1.len]) (by rw [h1.len,h.sel.len]) hx h2] at h3
    cases h3⟩
set_option maxHeartbeats 8000000 in
theorem JE {W C:List Int} {nd:List (List Nat)} {B:Int} (h:Pb W C nd B) (hn:nd.length<=9):HT Try.prog 20 [.agg (jX W C nd B)] (fun r=>∃S,r=.osl 1 nd.length (HL.bools S)/\Sel C nd B S/\∀X,Sel C nd B X->lU W C nd.length X S=false):=by
 have hsz:=h.g.size
 have hlw:=h.lw
 have hlc:=h.lc
 have hB:=h.b
 have hnl:(nd.map nl).length=nd.length:=by simp
 obtain ⟨q,hq,hsu,hss,hq1,hq2⟩:=DD nd.length hn
 refine HT.of rfl aec (Nat.le_of_ble_eq_true rfl) ?_
 unfold c20
 simp only [jX,I,Gs,aO,Nat.reduceAdd,hlw,hlc,hnl]
 repeat (first|refine ah ?_|refine aF ?_|refine ag ?_|refine aG ?_|refine ak ?_|refine ae ?_|refine aC ?_|refine fM rfl (by rfl) gY ?_|refine aA ?_|refine eu ?_|refine kZ gY (by rfl) (by omega) di di ?_)
 refine bH [1,3,4,5] (fun s:Nat×List Bool=>(1<=s.1/\s.1<=q)/\BestS W C nd B s.1 s.2)
  (fun s=>⟨[(1,.pref 0 [] 0),(3,.int .i64 nd.length),(4,.ref 1 [] 1 0 nd.length),(5,.int .i64 s.1)],[(0,.optr [.sl nd.length (HL.ints W),.sl nd.length (HL.ints C),.sl nd.length (bf (nd.map nl)),.int .i64 B]),(1,.osl 1 nd.length (HL.bools s.2))],2⟩)
  (fun s=>q - s.1) (1,List.replicate nd.length false) ⟨⟨by simp,by simp only;omega⟩,BestS.one hB.1⟩ (by rw [<- yF];rfl) ?_
 rintro ⟨k,S⟩ ⟨⟨hk1,hk⟩,hS⟩
 simp only at hk1 hk hS ⊢
 by_cases hkq:k < q
 ·have hst:=yl nd.length k (by omega) (by omega) (by omega)
  rw [Ld] at hst
  obtain ⟨X,hX⟩:∃X,gz k nd.length=X:=⟨_,rfl⟩
  have hXl:X.length=nd.length:=by rw [<- hX,nT]
  have hSl:=hS.sel.len
  have hse:=yM h X (by omega)
  have hbt:=CB h X S hXl hSl
  rw [hX] at hst
  simp only [jX,I,Gs,Bl,hlw,hlc,hnl,hXl,hSl] at hse hbt
  repeat (first|refine ah ?_|refine ag ?_|refine az ?_|refine ax ?_|refine ak ?_|refine ae ?_|refine aC ?_|refine aB ?_|refine G8 (by rfl) (by rfl) (by omega) (by (try simp (disch:=omega) only [go_sem,Int.reduceAdd,Int.reduceSub,Int.reduceMul,hsu,hss]);try rfl) ?_|refine AP (by rfl) (by (try simp (disch:=omega) only [go_sem,Int.reduceAdd,Int.reduceSub,Int.reduceMul,hsu,hss]);try rfl) ?_)
  refine bg aK dO (hst) ?_
  rintro _ rfl
  refine ⟨dF,_,_,_,_,_,dA,(by decide),aQ,?_⟩
  repeat (first|refine ah ?_|refine ag ?_|refine ak ?_|refine ae ?_|refine bV ?_)
  refine bg aK dO (hse) ?_
  rintro _ ⟨b,rfl,hb⟩
  refine ⟨dF,_,_,_,_,_,dA,(by decide),aQ,?_⟩
  cases b with
  | false =>
   repeat (first|refine ah ?_|refine bT ?_|refine ag ?_|refine aI ?_|refine bM ?_|refine au ?_|refine ae ?_|refine dm ?_|refine aB ?_)
   exact bQ [1,3,4,5] (k+1,S) ⟨⟨by simp only;omega,hkq⟩,hS.keep fun hs=>by rw [hX] at hs;have:=hb.2 hs;cases this⟩ fC rfl
  | true =>
   repeat (first|refine ah ?_|refine aH ?_|refine bV ?_)
   refine bg aK dO (hbt) ?_
   rintro _ rfl
   refine ⟨dF,_,_,_,_,_,dA,(by decide),aQ,?_⟩
   cases hbb:lU W C nd.length X S with
   | false =>
    repeat (first|refine ah ?_|refine ag ?_|refine aJ ?_|refine bM ?_|refine au ?_|refine ae ?_|refine dm ?_|refine aB ?_)
    exact bQ [1,3,4,5] (k+1,S) ⟨⟨by simp only;omega,hkq⟩,hS.keep fun hs=>by rw [hX];exact hbb⟩ fC rfl
   | true =>
    repeat (first|refine ah ?_|refine ag ?_|refine aJ ?_|refine bM ?_|refine ax ?_|refine ae ?_|refine dm ?_)
    exact bQ [1,3,4,5] (k+1,X) ⟨⟨by simp only;omega,hkq⟩,hX ▸ hS.take (by rw [hX];exact hb.1 rfl) (by rw [hX];exact hbb)⟩ fC rfl
 ·obtain rfl:k=q:=by omega
  repeat (first|refine ah ?_|refine ag ?_|refine az ?_|refine bz (by rfl) ?_|refine au ?_|refine ak ?_|refine ae ?_|refine G8 (by rfl) (by rfl) (by omega) (by (try simp (disch:=omega) only [go_sem,Int.reduceAdd,Int.reduceSub,Int.reduceMul,hsu,hss]);try rfl) ?_|refine AP (by rfl) (by (try simp (disch:=omega) only [go_sem,Int.reduceAdd,Int.reduceSub,Int.reduceMul,hsu,hss]);try rfl) ?_)
  refine ay ?_
  subst hq
  exact ⟨S,rfl,hS.sel,fun X hX=>hS.most hX⟩
end Go.Proofs.Yteamkjblpglliaa
