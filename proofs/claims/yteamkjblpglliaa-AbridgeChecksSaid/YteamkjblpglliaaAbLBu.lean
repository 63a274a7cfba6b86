import Derived.Test.YteamkjblpglliaaCodesAbridgeBudget
import Derived.Test.YteamkjblpglliaaAbP
set_option linter.unusedSimpArgs false
set_option linter.unusedVariables false
namespace Go.Proofs.Yteamkjblpglliaa
open Go.RowKit Go.SL Go.HL
theorem yH:∀k,fB (2 ^ k - 1) k=List.replicate k true
 | 0=>rfl
 | k+1=>by
  have h2:2 ^ (k+1)=2*2 ^ k:=by rw [Nat.pow_succ,Nat.mul_comm]
  have hp:=Nat.two_pow_pos k
  rw [fB,show (2 ^ (k+1) - 1) / 2=2 ^ k - 1 by omega,yH k,List.replicate_succ,decide_eq_true (show (2 ^ (k+1) - 1) % 2=1 by omega)]
def alD (n:Nat) (A:List Bool) (f0:FuncId):FuncId->List HV->HV->Prop:=fun f xs r=>if f=f0 then r=.osl 1 n (HL.bools A) else Ik n f xs r
theorem Gx {n:Nat} {A:List Bool} {f0 f:FuncId} {L:List Int} {X:List Bool} {r:HV} (hne:f≠f0):alD n A f0 f [.sl n (HL.ints L),.sl n (HL.bools X)] r <-> r=.int .i64 (wS L X n):=by
 unfold alD;rw [if_neg hne]
 exact ⟨gz,fun h=>⟨L,X,rfl,h⟩⟩
end Go.Proofs.Yteamkjblpglliaa
