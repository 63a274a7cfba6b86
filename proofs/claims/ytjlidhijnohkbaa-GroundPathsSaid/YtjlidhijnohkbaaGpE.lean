import Derived.Test.YtjlidhijnohkbaaGpD
import Derived.Test.YtjlidhijnohkbaaHlW
set_option linter.unusedSimpArgs false
set_option linter.unusedVariables false
set_option maxHeartbeats 4000000
namespace Go.Proofs.Ytjlidhijnohkbaa
open Go.RowKit Go.HL Go.BF
theorem JO {n:Nat} {R:List (List Nat)} {F:List Bool} (a:Au n R F):HT Try.prog 31 [.agg [.int .i64 4,.sl n (rT R),.sl n (HL.bools F)]] (RY R F):=by
 have hsr:=Hl a
 have hval:=JE a
 refine HT.of rfl Ud (gZ rfl) ?_
 unfold c31
 simp only [aB,Nat.reduceAdd]
 refine zF ⟨?_⟩
 refine bU aY (zW @zO) (hval) ?_
 rintro _ rfl
 refine zG ⟨?_⟩
 refine zQ ⟨?_⟩
 refine eG (by rfl) ?_
 refine dN ?_
 refine dY 0 [1] (⟨[(1,.ptr (stripL [.int .i64 4,.sl n (rT R),.sl n (HL.bools F)]) 0)],[],0⟩:St) rfl ?_
 rw [show stripL [.int .i64 4,.sl n (rT R),.sl n (HL.bools F)]=[.int .i64 4,.sl n (rT R),.sl n (HL.bools F)] by simp [stripL,HV.strip,zO,HL.bools_strip]]
 refine zF ⟨?_⟩
 refine zZ aY ?_
 refine zF ⟨?_⟩
 refine zZ aY ?_
 refine zF ⟨?_⟩
 refine bU aY iQ (hsr) ?_
 rintro _ (⟨w,hw,rfl⟩|⟨hn,rfl⟩)
 ·refine zG ⟨?_⟩
  refine zF ⟨?_⟩
  refine az ?_
  exact .inl ⟨w,hw,rfl⟩
 ·refine zG ⟨?_⟩
  refine zF ⟨?_⟩
  refine az ?_
  exact .inr ⟨hn,rfl⟩
end Go.Proofs.Ytjlidhijnohkbaa
