import Derived.Test.YtjlidhijnohkbaaHl5
import Derived.Test.YtjlidhijnohkbaaCodes
set_option linter.unusedSimpArgs false
set_option linter.unusedVariables false
namespace Go.Proofs.Ytjlidhijnohkbaa
open Go.RowKit Go.HL
section
variable {F:Nat->Prop} {h:Hp} {R:HV->Value->Prop}
end
section
variable {P:Program} {k:List HI} {Q:HE->St->Prop} {C:CallSpec} {all r:List HOper} {i:Nat} {d:Option Nat} {sl sl' st st':List (Nat×HV)} {nx nx':Nat}
end
theorem dQ (l:List Int) {n:Nat} (h:n=l.length):win (HL.ints l) 0 n=HL.ints l:=kY _ (by rw [ints_len];exact h)
theorem cO (l:List Bool) {n:Nat} (h:n=l.length):win (HL.bools l) 0 n=HL.bools l:=kY _ (by rw [bools_len];exact h)
theorem D9 (v:HV) (r:List HV):aZ (v::r)=(fH v&&aZ r):=rfl
theorem E5:aZ []=true:=rfl
theorem iK (v:HV) (r:List HV):fQ (v::r)=(cellV v&&fQ r):=rfl
theorem jh:fQ []=true:=rfl
theorem O3 (n:Nat):(List.replicate n [HV.int .i64 0]).flatten=HL.ints (List.replicate n 0):=by
 induction n with
 | zero=>rfl
 | succ n ih=>rw [Cf,List.flatten_cons,ih];rfl
theorem Ns (n:Nat):(List.replicate n [HV.bool false]).flatten=HL.bools (List.replicate n false):=by
 induction n with
 | zero=>rfl
 | succ n ih=>rw [Cf,List.flatten_cons,ih];rfl
theorem win_cons (a:HV) (r:List HV) (off m:Nat):win (a::r) off m=if off=0/\m=(a::r).length then a::r else ((a::r).drop off).take m:=rfl
attribute [go_sem] HL.ints_get HL.bools_get List.getD_cons_zero List.getD_cons_succ dQ cO win_cons List.drop_zero List.drop_succ_cons List.take_zero List.take_succ_cons List.length_cons List.length_nil and_true true_and and_self and_false false_and if_true if_false Nat.mul_one Nat.zero_mul Nat.zero_add Nat.add_zero Nat.mul_zero HL.ints_len HL.bools_len List.length_set HL.ints_cell HL.bools_cell iK jh cellV HL.ints_flat HL.bools_flat D9 E5 fH Bool.and_true Bool.and_self Int.toNat_natCast Int.sub_zero Int.toNat_zero HL.ints_snoc HL.bools_snoc HL.ints_app HL.bools_app List.nil_append List.append_nil List.cons_append setFrom HL.ints_set HL.bools_set List.set_cons_zero List.set_cons_succ cu ah bu aJ cellsOf List.flatMap_cons List.flatMap_nil stride aU O3 Ns IntWalk.i64_in Bool.not_true Bool.not_false Bool.false_eq_true beq_self_eq_true beq_true beq_false Bool.true_beq Bool.false_beq Bool.not_not
end Go.Proofs.Ytjlidhijnohkbaa
