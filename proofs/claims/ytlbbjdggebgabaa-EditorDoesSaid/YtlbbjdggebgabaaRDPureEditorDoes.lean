/- EditorDoes: Do agrees with the specification for a valid editor, and returns a valid one. No conditions. -/
import Derived.Test.YtlbbjdggebgabaaRDArgsEditorDoes
namespace Go.Proofs.Ytlbbjdggebgabaa.Pure
open Go Go.RowKit Go.Proofs.Ytlbbjdggebgabaa.P Go.Proofs.Ytlbbjdggebgabaa.Op
theorem EditorDoes : editorDoes.Pure := fun a c b h hc hb => by
  refine ⟨0, ?_⟩
  unfold jobshelllaw46_EditorDoes.f
  rw [if_pos]
  obtain ⟨h0, h1, h2, h3, h4, h5, h6, h7, h8⟩ := h
  have e2 := h2.2.1
  have e3 := h3.2.1
  have e4 := h4.2.1
  have e5 := hb.2.2.1
  exact ⟨h0.1, h5, h8, by show a.f2.length ≤ _; omega, by show a.f3.length ≤ _; omega, by show a.f4.length ≤ _; omega, by show b.f1.length ≤ _; omega, h2.2.2, fun x hx => (h3.2.2 x hx).1, fun x hx => (h4.2.2 x hx).1⟩
end Go.Proofs.Ytlbbjdggebgabaa.Pure
