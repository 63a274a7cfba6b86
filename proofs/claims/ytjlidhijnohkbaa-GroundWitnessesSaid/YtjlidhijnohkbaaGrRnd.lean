/-
  OWN WORK. The reference's search for a circle in the value language: the path is given away.
-/
import Derived.Test.YtjlidhijnohkbaaGrRndP
import Derived.Test.YtjlidhijnohkbaaGrHas
import Derived.Test.YtjlidhijnohkbaaGrWitn
set_option linter.unusedSimpArgs false
set_option linter.unusedVariables false
namespace Go.Proofs.Ytjlidhijnohkbaa
open Go.RowKit Go.HL

theorem win_take (path : List Nat) {k : Nat} (h : k < path.length) : win (HL.ints (nl path)) 0 k = HL.ints (nl (path.take k)) := by
  unfold win
  rw [if_neg (by rw [HL.ints_len, nl_len]; omega)]
  simp [HL.ints, nl, List.map_take]

end Go.Proofs.Ytjlidhijnohkbaa
