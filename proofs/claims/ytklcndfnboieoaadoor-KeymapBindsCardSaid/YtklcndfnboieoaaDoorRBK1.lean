/- Both readers of a keymap's notation (the program's and the reference's) come to what one step of reading, over and over, gives. -/
import Derived.Test.YtklcndfnboieoaaDoorK0
import Derived.Test.YtklcndfnboieoaaDoorRBPx7
import Derived.Test.YtklcndfnboieoaaDoorRBPx6
import Derived.Test.YtklcndfnboieoaaDoorRBPx5
import Derived.Test.YtklcndfnboieoaaDoorH2
namespace Go.Proofs.YtklcndfnboieoaaDoor.K
set_option linter.unusedVariables false
set_option linter.unusedSimpArgs false
open Go Go.RowKit Go.Proofs.YtklcndfnboieoaaDoorW.PrintWords
open Go.Proofs.YtklcndfnboieoaaDoor.H (keymap_form.f keymap_Parse.f keymap_Parse.l0 formRest keymap_form.mono keymap_Parse.mono keymap_Parse.mono_l)

def digI (c : Int) : Int := if 48 ≤ c ∧ c ≤ 57 then c - 48 else if 97 ≤ c ∧ c ≤ 102 then c - 87 else -1

section
open Go.Proofs.YtklcndfnboieoaaDoor.PKeymapParses
end
end Go.Proofs.YtklcndfnboieoaaDoor.K
