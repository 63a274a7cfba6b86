import Derived.Test.YteamkjblpglliaaHl4
import Derived.Test.YteamkjblpglliaaProg
import Derived.Test.YteamkjblpglliaaCodes1
namespace Go.Proofs.Yteamkjblpglliaa
open Go.HL
set_option maxRecDepth 100000
set_option linter.unusedVariables false
end Go.Proofs.Yteamkjblpglliaa
