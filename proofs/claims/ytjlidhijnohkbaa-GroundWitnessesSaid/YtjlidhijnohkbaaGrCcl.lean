/-
  OWN WORK. The reference's Circle in the value language.
-/
import Derived.Test.YtjlidhijnohkbaaGrCclP
import Derived.Test.YtjlidhijnohkbaaGrRnd
import Derived.Test.YtjlidhijnohkbaaGrW
import Derived.Test.YtjlidhijnohkbaaGrGph
set_option linter.unusedSimpArgs false
set_option linter.unusedVariables false
namespace Go.Proofs.Ytjlidhijnohkbaa
open Go.RowKit Go.HL

end Go.Proofs.Ytjlidhijnohkbaa
