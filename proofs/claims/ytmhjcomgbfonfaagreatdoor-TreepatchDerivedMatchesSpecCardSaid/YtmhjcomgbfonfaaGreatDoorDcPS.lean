import Derived.Test.YtmhjcomgbfonfaaGreatDoorDcP
set_option linter.unusedSimpArgs false
set_option linter.unusedVariables false
namespace Go.Dc
open Go
end Go.Dc
