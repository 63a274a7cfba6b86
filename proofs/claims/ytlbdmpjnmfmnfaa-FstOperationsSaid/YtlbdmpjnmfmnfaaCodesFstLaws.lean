import Derived.Test.YtlbdmpjnmfmnfaaHl4
import Derived.Test.YtlbdmpjnmfmnfaaProg
set_option linter.unusedVariables false
set_option maxRecDepth 100000
namespace Go.Proofs.Ytlbdmpjnmfmnfaa
open Go.HL
end Go.Proofs.Ytlbdmpjnmfmnfaa
