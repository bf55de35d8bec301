/- Both readers of a keymap's notation agree: the program's and the reference's come to one result. -/
import Derived.Test.YtklcndfnboieoaaDoorRBK1
import Derived.Test.YtklcndfnboieoaaDoorRBPx7
import Derived.Test.YtklcndfnboieoaaDoorRBPx6
import Derived.Test.YtklcndfnboieoaaDoorRBPx5
namespace Go.Proofs.YtklcndfnboieoaaDoor.K
set_option linter.unusedVariables false
set_option linter.unusedSimpArgs false
open Go Go.RowKit Go.Proofs.YtklcndfnboieoaaDoorW.PrintWords
open Go.Proofs.YtklcndfnboieoaaDoor.H (keymap_form.f keymap_Parse.f keymap_Parse.l0)

open Go.Proofs.YtklcndfnboieoaaDoor.P

def hx (s : ByteArray) (a : Nat) : Int ⊕ (Int × Nat) := if a = s.size then .inl 7 else if digI (bt s a) < 0 then .inl 6 else if a + 1 = s.size then .inl 7 else if digI (bt s (a + 1 : Nat)) < 0 then .inl 6 else .inr (16 * digI (bt s a) + digI (bt s (a + 1 : Nat)), a + 2)
def out (r : Int ⊕ (Int × Nat)) : ByteArray × Int × Int := match r with | .inl e => (⟨#[]⟩, 0, e) | .inr (k, a) => (⟨[b8 k].toArray⟩, (a : Int), 0)
end Go.Proofs.YtklcndfnboieoaaDoor.K
