/- KeymapDefaults, KeymapValids, KeymapFinds, plain. -/
import Derived.Test.YtklcndfnboieoaaDoorRFK5
import Derived.Test.YtklcndfnboieoaaDoorRFPx8
import Derived.Test.YtklcndfnboieoaaDoorRFPx9
import Derived.Test.YtklcndfnboieoaaDoorRFPx11
namespace Go.Proofs.YtklcndfnboieoaaDoor.K
set_option linter.unusedVariables false
set_option linter.unusedSimpArgs false
open Go Go.RowKit Go.Proofs.YtklcndfnboieoaaDoorW.PrintWords Go.Proofs.YtklcndfnboieoaaDoor.P

theorem KeymapFinds (l : List S45) (keys : ByteArray) (hs : ∀ b ∈ l, b.f0.size ≤ 140737488351232) : ∃ k, jobshelllaw45_KeymapFinds.f k l keys = some true := by
  refine Ev.rounds ?_
  unfold jobshelllaw45_KeymapFinds.f
  obtain ⟨b, hb, hl⟩ := few_tells l hs
  refine Ev.bind hb ?_
  have out : Ev (fun k => jobshelllaw45_KeymapFinds.j0 k l keys true) true := Ev.shiftE 1 (fun k => by rw [jobshelllaw45_KeymapFinds.j0, if_pos rfl]) (Ev.bind awake_ev (Ev.now _))
  cases b
  · exact Ev.congr (fun k => if_neg (by decide)) out
  · refine Ev.congr (fun k => if_pos rfl) ?_
    have hl := hl rfl
    by_cases hk : (keys.size : Int) > 100
    · rw [decide_eq_true hk]; exact out
    · rw [decide_eq_false hk]
      refine Ev.shiftE 1 (fun k => by rw [jobshelllaw45_KeymapFinds.j0, if_neg (by decide)]) (Ev.bind (find_tells l keys (by omega)) (Ev.bind (reffind_tells l keys (by omega)) (Ev.congr (fun k => ?_) (Ev.bind awake_ev (Ev.now _)))))
      rw [if_pos rfl, if_pos rfl]
end Go.Proofs.YtklcndfnboieoaaDoor.K
