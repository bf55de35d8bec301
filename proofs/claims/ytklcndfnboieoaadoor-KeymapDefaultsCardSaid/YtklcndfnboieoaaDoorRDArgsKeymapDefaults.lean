/- What the arguments of KeymapDefaults read as. -/
import Derived.Test.YtklcndfnboieoaaDoorOpen
import Derived.Test.YtklcndfnboieoaaDoorRDPx8
namespace Go.Proofs.YtklcndfnboieoaaDoor.keymapDefaults
open Go Go.RowKit Go.Proofs.YtklcndfnboieoaaDoorW.PrintWords Go.Proofs.YtklcndfnboieoaaDoor.P Go.Proofs.YtklcndfnboieoaaDoor.Op
set_option linter.unusedVariables false
def Pure : Prop := ∀ (a0 : ByteArray), a0.size ≤ 140737488351232 → ∃ k, jobshelllaw45_KeymapDefaults.f k a0 = some true
end Go.Proofs.YtklcndfnboieoaaDoor.keymapDefaults
