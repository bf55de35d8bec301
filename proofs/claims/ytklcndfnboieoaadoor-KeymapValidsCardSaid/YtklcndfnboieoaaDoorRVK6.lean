/- KeymapDefaults, KeymapValids, KeymapFinds, plain. -/
import Derived.Test.YtklcndfnboieoaaDoorRVK5
import Derived.Test.YtklcndfnboieoaaDoorRVPx8
import Derived.Test.YtklcndfnboieoaaDoorRVPx9
import Derived.Test.YtklcndfnboieoaaDoorRVPx11
namespace Go.Proofs.YtklcndfnboieoaaDoor.K
set_option linter.unusedVariables false
set_option linter.unusedSimpArgs false
open Go Go.RowKit Go.Proofs.YtklcndfnboieoaaDoorW.PrintWords Go.Proofs.YtklcndfnboieoaaDoor.P

theorem KeymapValids (l : List S45) (hs : ∀ b ∈ l, b.f0.size ≤ 140737488351232) : ∃ k, jobshelllaw45_KeymapValids.f k l = some true := by
  refine Ev.rounds ?_
  unfold jobshelllaw45_KeymapValids.f
  obtain ⟨b, hb, _⟩ := few_tells l hs
  refine Ev.bind hb ?_
  cases b
  · exact Ev.congr (fun k => if_neg (by decide)) (Ev.bind awake_ev (Ev.now _))
  · refine Ev.congr (fun k => if_pos rfl) (Ev.bind (valid_tells l) (Ev.bind (refvalid_tells l) (Ev.congr (fun k => if_pos rfl) (Ev.bind awake_ev (Ev.now _)))))
end Go.Proofs.YtklcndfnboieoaaDoor.K
