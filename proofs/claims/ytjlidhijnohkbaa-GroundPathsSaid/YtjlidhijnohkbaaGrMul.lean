import Derived.Test.YtjlidhijnohkbaaHb
set_option linter.unusedSimpArgs false
set_option linter.unusedVariables false
set_option maxRecDepth 100000
namespace Go.Proofs.Ytjlidhijnohkbaa
open Go.RowKit Go.HL
def Q7:Pi:=[(48,Ur,[4,5],30),(50,Ua,[4,5],51)]
theorem OT:tblOK Try.prog Q7:=(tblOK.cons Ry (tblOK.cons Tf (tblOK.nil)))
def Bg (n:Nat):Bool:=match Tm [] Q7 40 3 48 [.int .u64 1,.int .u64 n] with
 | some (.tup [.int .u64 a,.int .u64 b])=>decide (a=0)&&decide (b=n)
 | _=>false
theorem TS:((List.range' 1 64).all Bg)=true:=by kernel_rfl
theorem TE:((List.range' 65 64).all Bg)=true:=by kernel_rfl
theorem TF:((List.range' 129 64).all Bg)=true:=by kernel_rfl
theorem TK:((List.range' 193 64).all Bg)=true:=by kernel_rfl
theorem QJ (n:Nat) (h0:0<n) (h1:n<=256):Bg n=true:=by
 rcases dL n 65 with h|h
 ·exact zl014.1 TS n (zl077.2 ⟨by omega,by omega⟩)
 rcases dL n 129 with h|h
 ·exact zl014.1 TE n (zl077.2 ⟨by omega,by omega⟩)
 rcases dL n 193 with h|h
 ·exact zl014.1 TF n (zl077.2 ⟨by omega,by omega⟩)
 ·exact zl014.1 TK n (zl077.2 ⟨by omega,by omega⟩)
theorem Qq (n:Nat) (h0:0<n) (h1:n<=256):HT Try.prog 48 [.int .u64 1,.int .u64 n] (fun r=>r=.tup [.int .u64 0,.int .u64 n]):=by
 have h:=QJ n h0 h1
 unfold Bg at h
 split at h
 ·rename_i a b he
  simp only [aG,decide_eq_true_eq] at h
  obtain ⟨rfl,rfl⟩:=h
  exact di rfl (m:=[]) memoOK.nil OT 40 3 _ _ _ he
 ·cases h
end Go.Proofs.Ytjlidhijnohkbaa
