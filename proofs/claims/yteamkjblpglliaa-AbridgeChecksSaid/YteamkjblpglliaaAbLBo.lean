import Derived.Test.YteamkjblpglliaaCodesAbridgeBound
import Derived.Test.YteamkjblpglliaaAbP
import Derived.Test.YteamkjblpglliaaHlEx
set_option linter.unusedSimpArgs false
set_option linter.unusedVariables false
namespace Go.Proofs.Yteamkjblpglliaa
open Go.RowKit Go.SL Go.HL
theorem gm (l:List Int):ja (HL.ints l)=true:=by
 induction l with
 | nil=>rfl
 | cons x l ih=>show (true&&ja (HL.ints l))=true;rw [ih];rfl
theorem gu (l:List (List Int)):ja (aZ l)=true:=by
 induction l with
 | nil=>rfl
 | cons x l ih=>show (ja (HL.ints x)&&ja (aZ l))=true;rw [ih,gm];rfl
theorem BM (W C:List Int) (g:List (List Int)) (n:Nat) (B a b:Int):ja [.agg [.sl n (HL.ints W),.sl n (HL.ints C),.sl n (aZ g),.int .i64 B],.int .i64 a,.int .i64 b]=true:=by
 simp [ja,HV.rdb,gm,gu]
theorem Ot (W C:List Int) (g:List (List Int)) (n:Nat) (B a:Int):ja [.agg [.sl n (HL.ints W),.sl n (HL.ints C),.sl n (aZ g),.int .i64 B],.int .i64 a]=true:=by
 simp [ja,HV.rdb,gm,gu]
def boS (W C:List Int) (nd:List (List Nat)) (B:Int) (f0:FuncId) (m:Nat):FuncId->List HV->HV->Prop:=fun f xs r=>(f=f0->∃y:Nat,r=.int .i64 y/\y<m)/\(f≠f0->∃P a,xs=[P,.int .i64 a]/\∃s b,r=.tup [.agg (Gj W C nd.length s b),.int .i64 0]/\SolS W C nd B a s b)
theorem Mc {W C:List Int} {nd:List (List Nat)} {B:Int} {f0 f:FuncId} {m:Nat} {P r:HV} {a:Int} (hf:f≠f0) (h:∃s b,r=.tup [.agg (Gj W C nd.length s b),.int .i64 0]/\SolS W C nd B a s b):boS W C nd B f0 m f [P,.int .i64 a] r :=
 ⟨fun e=>absurd e hf,fun _=>⟨P,a,rfl,h⟩⟩
theorem NP {W C:List Int} {nd:List (List Nat)} {B:Int} {f0 f:FuncId} {m:Nat} {P r:HV} {a:Int} (hf:f≠f0) (h:boS W C nd B f0 m f [P,.int .i64 a] r):∃s b,r=.tup [.agg (Gj W C nd.length s b),.int .i64 0]/\SolS W C nd B a s b:=by
 obtain ⟨P',a',e,h⟩:=h.2 hf
 cases e;exact h
theorem NJ {W C:List Int} {nd:List (List Nat)} {B:Int} {f0:FuncId} {m y:Nat} {xs:List HV} (h:y<m):boS W C nd B f0 m f0 xs (.int .i64 y):=⟨fun _=>⟨y,rfl,h⟩,fun e=>absurd rfl e⟩
end Go.Proofs.Yteamkjblpglliaa
