import Derived.Test.YtmhjcomgbfonfaaGreatDoorDcJB
set_option linter.unusedSimpArgs false
set_option linter.unusedVariables false
set_option maxRecDepth 4000
namespace Go.Dc
open Go
end Go.Dc
