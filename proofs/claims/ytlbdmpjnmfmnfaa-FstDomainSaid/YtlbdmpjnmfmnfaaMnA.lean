import Derived.Test.YtlbdmpjnmfmnfaaHlW
import Derived.Test.YtlbdmpjnmfmnfaaMnP
import Derived.Test.YtlbdmpjnmfmnfaaHl5
import Derived.Test.YtlbdmpjnmfmnfaaCodes
set_option linter.unusedSimpArgs false
set_option linter.unusedVariables false
set_option linter.unusedSectionVars false
set_option maxHeartbeats 4000000
section
namespace Go.HL
open Go.RowKit
def Ob (l:List Int):List UInt8:=l.map fun n=>UInt8.ofNat n.toNat
def vW (l:List UInt8):HV:=.str ⟨l.toArray⟩
theorem Yo (l:List Int):F8 l=⟨(Ob l).toArray⟩:=by
 have:∀ (l:List Int) (b:ByteArray),l.foldl (fun r n=>r.push (UInt8.ofNat n.toNat)) b=⟨b.data++(Ob l).toArray⟩:=by
  intro l
  induction l with
  | nil=>intro b;simp [Ob]
  | cons n l ih =>
   intro b
   rw [List.foldl_cons,ih]
   simp [Ob,ByteArray.push]
 unfold F8
 rw [this]
 show (⟨#[]++(Ob l).toArray⟩:ByteArray)=_
 simp
theorem Bh (l:List Int):HV.str (F8 l)=vW (Ob l):=by rw [Yo];rfl
theorem rM:KF vW:=⟨fun a b=>by
 have e:((⟨a.toArray⟩:ByteArray)==⟨b.toArray⟩)=(a.toArray==b.toArray):=rfl
 show ((⟨a.toArray⟩:ByteArray)==⟨b.toArray⟩)=decide (a=b)
 rw [e,Jz]
 simp⟩
def by8 (l:List Int):List HV:=l.map (HV.int .u8)
theorem xq (l:List Int):(by8 l).length=l.length:=by simp [by8]
theorem YB (a b:List Int):by8 a++by8 b=by8 (a++b):=by simp [by8]
theorem sF (l:List Int):bytesOf (by8 l)=some l:=bytesOf_map l
theorem zl (l:List Int) (n:Nat) (h:n=l.length):win (by8 l) 0 n=by8 l:=by subst h;exact dw _ (by simp [by8])
theorem Sr {a b:List Int} (ha:∀x∈a,0<=x/\x<256) (hb:∀x∈b,0<=x/\x<256) (h:Ob a=Ob b):a=b:=by
 induction a generalizing b with
 | nil=>cases b with
  | nil=>rfl
  | cons y b=>cases h
 | cons x a ih =>
  cases b with
  | nil=>cases h
  | cons y b =>
   simp only [Ob,dP,vk] at h
   have h1:=ha x (by simp)
   have h2:=hb y (by simp)
   have e:=congrArg UInt8.toNat h.1
   simp only [UInt8.toNat_ofNat'] at e
   have:x=y:=by omega
   rw [this,ih (fun z hz=>ha z (by simp [hz])) (fun z hz=>hb z (by simp [hz])) h.2]
attribute [go_sem] xq
def lU (n:Nat):List HV:=(List.range n).map fun i:Nat=>.int .i64 i
theorem Js (n:Nat):bC (lU n)=true:=by simp [lU,bC,fH]
theorem Us (n:Nat):lU n++[.int .i64 n]=lU (n+1):=by simp [lU,JE]
theorem XT {n j:Nat} (h:j<n):(lU n).getD j .dead=.int .i64 j:=by simp [lU,h]
section
variable {α β:Type} [DecidableEq α] [DecidableEq β] {f:α->HV}
theorem DL (K:KF f) {l:List α} {a:α} (z:HV) (id:Nat) (pa:List Nat) (h:a∈l):o6 id pa (l.map f) (lU l.length) z (f a)=(.int .i64 (l.idxOf a),true):=by
 rw [tq (by simp [lU]) (Js _)]
 unfold Fg
 rw [jU K,if_pos h]
 simp only
 rw [XT (List.idxOf_lt_length_of_mem h)]
theorem VL (K:KF f) {l:List α} {a:α} (z:HV) (id:Nat) (pa:List Nat) (h:a ∉ l):o6 id pa (l.map f) (lU l.length) z (f a)=(z,false):=by
 rw [tq (by simp [lU]) (Js _)]
 unfold Fg
 rw [jU K,if_neg h]
theorem PP (K:KF f) {l:List α} {a:α} {n:Nat} {kd:KK} (hn:n=l.length) (h:a ∉ l):zM ⟨kd,none⟩ (l.map f) (lU l.length) (f a) (.int .i64 n)=.omap ⟨kd,none⟩ ((l++[a]).map f) (lU (l++[a]).length):=by
 subst hn
 rw [Ho K _ _ _ _ h,Us]
 simp
theorem Bj {e:α->β} {l:List α} {a:α} (h:∀x∈l,e a=e x->a=x):(l.map e).idxOf (e a)=l.idxOf a:=by
 induction l with
 | nil=>rfl
 | cons x l ih =>
  rw [dP,List.idxOf_cons,List.idxOf_cons,ih fun y hy=>h y (by simp [hy])]
  by_cases hx:x=a
  ·subst hx;simp
  ·have:¬ e x=e a:=fun q=>hx (h x (by simp) q.symm).symm
   rw [show (e x==e a)=false by simpa using this,show (x==a)=false by simpa using hx]
theorem GG {e:α->β} {l:List α} {a:α} (h:∀x∈l,e a=e x->a=x):e a∈l.map e <-> a∈l:=by
 constructor
 ·intro hm
  obtain ⟨x,hx,q⟩:=zl020.1 hm
  rw [h x hx q.symm];exact hx
 ·exact AP
open Go.MN in
theorem abZ (K:KF f) {q:Nat->α} {n i:Nat} (hi:i<n) (z:HV) (id:Nat) (pa:List Nat) (h:q i∈firsts q i):o6 id pa ((firsts q i).map f) (lU (firsts q i).length) z (f (q i))=(.int .i64 (num q n i),true):=by
 rw [DL K z id pa h,Fz q (zJ i) hi]
 unfold num
 rw [iK q h]
open Go.MN in
theorem Vf {q:Nat->α} {n i:Nat} (hi:i<n) (h:q i ∉ firsts q i):num q n i=(firsts q i).length:=by
 rw [Fz q (zJ i) hi]
 unfold num
 rw [iP q h,MW,if_neg h]
 simp
end
end Go.HL
end
section
namespace Go.Proofs.Ytlbdmpjnmfmnfaa
open Go.RowKit Go.HL
section
variable {F:Nat->Prop} {h:Hp} {R:HV->Value->Prop}
end
section
variable {P:Program} {k:List HI} {Q:HE->St->Prop} {C:CallSpec} {all r:List HOper} {i:Nat} {d:Option Nat} {sl sl' st st':List (Nat×HV)} {nx nx':Nat}
end
theorem zZ (l:List Int) {n:Nat} (h:n=l.length):win (HL.ints l) 0 n=HL.ints l:=dw _ (by rw [ints_len];exact h)
theorem xA (l:List Bool) {n:Nat} (h:n=l.length):win (HL.bools l) 0 n=HL.bools l:=dw _ (by rw [bools_len];exact h)
theorem KL (v:HV) (r:List HV):bC (v::r)=(fH v&&bC r):=rfl
theorem OH:bC []=true:=rfl
theorem BV (v:HV) (r:List HV):gW (v::r)=(cellV v&&gW r):=rfl
theorem ES:gW []=true:=rfl
theorem aae (n:Nat):(List.replicate n [HV.int .i64 0]).flatten=HL.ints (List.replicate n 0):=by
 induction n with
 | zero=>rfl
 | succ n ih=>rw [Hr,Ol,ih];rfl
theorem Vm (n:Nat):(List.replicate n [HV.bool false]).flatten=HL.bools (List.replicate n false):=by
 induction n with
 | zero=>rfl
 | succ n ih=>rw [Hr,Ol,ih];rfl
theorem ZR (off m:Nat):win [] off m=[]:=by unfold win;split<;>simp
theorem win_cons (a:HV) (r:List HV) (off m:Nat):win (a::r) off m=if off=0/\m=(a::r).length then a::r else ((a::r).drop off).take m:=rfl
attribute [go_sem] HL.ints_get HL.bools_get List.getD_cons_zero List.getD_cons_succ ZR zZ xA win_cons List.drop_zero List.drop_succ_cons List.take_zero List.take_succ_cons List.length_cons List.length_nil and_true true_and and_self and_false false_and if_true if_false Nat.mul_one Nat.zero_mul Nat.zero_add Nat.add_zero Nat.mul_zero HL.ints_len HL.bools_len List.length_set HL.ints_cell HL.bools_cell BV ES cellV HL.ints_flat HL.bools_flat KL OH fH Bool.and_true Bool.and_self Int.toNat_natCast Int.sub_zero Int.toNat_zero HL.ints_snoc HL.bools_snoc HL.ints_app HL.bools_app List.nil_append List.append_nil List.cons_append setFrom HL.ints_set HL.bools_set List.set_cons_zero List.set_cons_succ dh ax bW aW cellsOf List.flatMap_cons List.flatMap_nil stride dI aae Vm IntWalk.i64_in Bool.not_true Bool.not_false Bool.false_eq_true beq_self_eq_true beq_true beq_false Bool.true_beq Bool.false_beq Bool.not_not
def kb (n:Int):List Int:=[n % 256,n / 256 % 256,n / 65536 % 256]
theorem VW (n:Int):(kb n).length=3:=rfl
attribute [go_sem] VW
theorem VS {m n:Int} (h0:0<=m) (h1:m<16777216) (h2:0<=n) (h3:n<16777216) (h:kb m=kb n):m=n:=by
 simp only [kb,vk,and_true] at h
 omega
theorem Xv (n:Int):∀x∈kb n,0<=x/\x<256:=by
 intro x hx
 simp only [kb,zl011,F9,or_false] at hx
 rcases hx with rfl|rfl|rfl<;>omega
theorem wrap_u8 (a:Int):IntKind.u8.wrap a=a % 256:=by
 unfold IntKind.wrap
 simp [IntKind.bits,IntKind.signed,BitVec.toInt]
theorem eG {a:Int}:a.fdiv (2 ^ min (Int.toNat 8) 64)=a / 256:=by
 rw [show (2:Int) ^ min (Int.toNat 8) 64=256 from rfl,Int.fdiv_eq_ediv_of_nonneg _ (by omega)]
theorem Wh {a:Int}:a.fdiv (2 ^ min (Int.toNat 16) 64)=a / 65536:=by
 rw [show (2:Int) ^ min (Int.toNat 16) 64=65536 from rfl,Int.fdiv_eq_ediv_of_nonneg _ (by omega)]
theorem abM (b:List Int) (n:Int) (hb:b.length<=100000000):HTM Try.prog 112 [.osl 1 b.length (by8 b),.int .i64 n] (fun r=>r=.osl 1 (b++kb n).length (by8 (b++kb n))):=by
 refine HTM.of rfl aaz (bF rfl) (⟨[(0,.ref 0 [] 1 0 b.length),(1,.int .i64 n)],[(0,.osl 1 b.length (by8 b))],1⟩:St) rfl ?_
 unfold aa9
 have hw:=zl b b.length rfl
 refine fP (zA @wrap_u8 (zA @eG (zA @Wh @hw))) ⟨?_⟩
 refine ae ?_
 show HV.osl 1 (b.length+3) (by8 b++by8 (kb n))=_
 rw [YB];simp [kb]
theorem Yy (n:Int):HTM Try.prog 112 [.nils,.int .i64 n] (fun r=>r=.osl 1 3 (by8 (kb n))):=by
 refine HTM.of rfl aaz (bF rfl) (⟨[(0,.nils),(1,.int .i64 n)],[],0⟩:St) rfl ?_
 unfold aa9
 refine fP (zA @wrap_u8 (zA @eG @Wh)) ⟨?_⟩
 refine ae ?_
 rfl
end Go.Proofs.Ytlbdmpjnmfmnfaa
end
