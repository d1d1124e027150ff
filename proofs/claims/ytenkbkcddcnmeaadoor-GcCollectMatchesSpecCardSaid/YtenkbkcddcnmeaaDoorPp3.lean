/- gc.Missing and what the reference says of it. -/
import Derived.Test.YtenkbkcddcnmeaaDoorPp2
namespace Go.Proofs.YtenkbkcddcnmeaaDoor
open Go.Fx
set_option linter.unusedVariables false
set_option linter.unusedSimpArgs false
set_option maxRecDepth 20000
end Go.Proofs.YtenkbkcddcnmeaaDoor
