import Derived.Test.YtfpbdmldeikfbaaGreatDoorDcTab
set_option linter.unusedSimpArgs false
set_option linter.unusedVariables false
namespace Go.Dc
open Go
class Con (P:Program) (f k:Nat) (T:outParam Prop):Prop where
 ok:T
 tc:∀ (args:Array Value) (w:World),(callFunc f args).run P w=.ok (.enter f args) w
end Go.Dc
