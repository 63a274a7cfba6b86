import Derived.Test.YteamkjblpglliaaHl4
import Derived.Test.YteamkjblpglliaaProg
namespace Go.Proofs.Yteamkjblpglliaa
open Go.HL
set_option maxRecDepth 100000
set_option linter.unusedVariables false
end Go.Proofs.Yteamkjblpglliaa
