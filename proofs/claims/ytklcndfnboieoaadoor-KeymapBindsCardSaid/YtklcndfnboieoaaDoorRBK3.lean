/- KeymapParses, plain: the program's Parse agrees with the reference's, and the chapter's examples hold. -/
import Derived.Test.YtklcndfnboieoaaDoorRBK2
import Derived.Test.YtklcndfnboieoaaDoorRBPx7
import Derived.Test.YtklcndfnboieoaaDoorRBPx6
import Derived.Test.YtklcndfnboieoaaDoorRBPx5
namespace Go.Proofs.YtklcndfnboieoaaDoor.K
set_option linter.unusedVariables false
set_option linter.unusedSimpArgs false
open Go Go.RowKit Go.Proofs.YtklcndfnboieoaaDoorW.PrintWords Go.Proofs.YtklcndfnboieoaaDoor.P
open Go.Proofs.YtklcndfnboieoaaDoor.H (keymap_Parse.f keymap_Parse.l0 keymap_Parse.mono)

theorem awake_ev : Ev (fun k => jobshelllaw45_awake.f k) true := Ev.of (fun k => jobshelllaw45_awake.mono k) (k := 200) (by decide +kernel)

end Go.Proofs.YtklcndfnboieoaaDoor.K
