/- What the arguments of KeymapBinds read as. -/
import Derived.Test.YtklcndfnboieoaaDoorOpen
import Derived.Test.YtklcndfnboieoaaDoorRBPx11
namespace Go.Proofs.YtklcndfnboieoaaDoor.keymapBinds
open Go Go.RowKit Go.Proofs.YtklcndfnboieoaaDoorW.PrintWords Go.Proofs.YtklcndfnboieoaaDoor.P Go.Proofs.YtklcndfnboieoaaDoor.Op
set_option linter.unusedVariables false
def ok45 (x : S45) : Prop := x.f0.size ≤ 140737488351232 ∧ (Lit.int .i64 x.f1).wf = true
theorem open45 : Opens Tryd.prog 45 k45 ok45 := by
  apply opens_struct (d := (Kd.pair Kd.string (Kd.int .i64))) (S := fun y => (y.1.size ≤ 140737488351232 ∧ (Lit.int .i64 y.2).wf = true)) Tryd.underlying45 (by kernel_rfl) (fun x : S45 => (x.f0, x.f1)) (fun y => (⟨y.1, y.2⟩ : S45)) (fun _ => rfl)
  apply opensFs_cons (d0 := Kd.string) (d := (Kd.int .i64)) (S0 := fun y => y.size ≤ 140737488351232) (S := fun y => (Lit.int .i64 y).wf = true)
  · rfl
  · kernel_rfl
  · exact (opens_string Tryd.underlying9)
  apply opensFs_one (d := (Kd.int .i64)) (S := fun y => (Lit.int .i64 y).wf = true)
  · rfl
  · kernel_rfl
  · exact (opens_int Tryd.underlying3)
def Pure : Prop := ∀ (a0 : (List S45)) (a1 : ByteArray) (a2 : Int), SL 24 ok45 a0 → a1.size ≤ 140737488351232 → (Lit.int .i64 a2).wf = true → ∃ k, jobshelllaw45_KeymapBinds.f k a0 a1 a2 = some true
end Go.Proofs.YtklcndfnboieoaaDoor.keymapBinds
