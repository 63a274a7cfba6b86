import Derived.Test.YtjlidhijnohkbaaHl4
import Derived.Test.YtjlidhijnohkbaaProg
set_option linter.unusedVariables false
set_option maxRecDepth 100000
namespace Go.Proofs.Ytjlidhijnohkbaa
open Go.HL
end Go.Proofs.Ytjlidhijnohkbaa
