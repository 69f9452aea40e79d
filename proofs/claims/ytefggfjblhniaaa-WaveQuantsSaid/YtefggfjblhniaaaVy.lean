import Derived.Test.YtefggfjblhniaaaVx
set_option linter.unusedVariables false
set_option linter.unusedSimpArgs false
/-! Paint, walked. -/
namespace Go.Proofs.Ytefggfjblhniaaa
open Xf

end Go.Proofs.Ytefggfjblhniaaa
