/-
  A region that draws its order, whose calls make memory and answer plain numbers: one operation of its walk (without the parameters' types).
-/
import Derived.Test.YtfdjmpaikbaepaaPart
import Derived.BigQuiet
import Derived.BigRegion
namespace Go.Proofs.Ytfdjmpaikbaepaa
open Go.RowKit
set_option linter.unusedVariables false

end Go.Proofs.Ytfdjmpaikbaepaa
