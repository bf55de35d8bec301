/- KeymapDefaults, KeymapValids, KeymapFinds, plain. -/
import Derived.Test.YtklcndfnboieoaaDoorRDK5
import Derived.Test.YtklcndfnboieoaaDoorRDPx8
import Derived.Test.YtklcndfnboieoaaDoorRDPx9
import Derived.Test.YtklcndfnboieoaaDoorRDPx11
namespace Go.Proofs.YtklcndfnboieoaaDoor.K
set_option linter.unusedVariables false
set_option linter.unusedSimpArgs false
open Go Go.RowKit Go.Proofs.YtklcndfnboieoaaDoorW.PrintWords Go.Proofs.YtklcndfnboieoaaDoor.P

theorem default_same : keymap_Default.f = jobshellref45_Default.f := rfl
theorem default_valid : ∀ l, keymap_Default.f = some l → l.length = 33 ∧ validAll l = 0 := by
  intro l h
  have e : (keymap_Default.f.map fun l => decide (l.length = 33 ∧ validAll l = 0)) = some true := by decide +kernel
  rw [h] at e
  simpa using e
theorem KeymapDefaults (s : ByteArray) : ∃ k, jobshelllaw45_KeymapDefaults.f k s = some true := by
  refine Ev.rounds ?_
  obtain ⟨l, hl⟩ : ∃ l, keymap_Default.f = some l := ⟨_, rfl⟩
  have hr : jobshellref45_Default.f = some l := by rw [← default_same]; exact hl
  obtain ⟨hn, hv⟩ := default_valid l hl
  unfold jobshelllaw45_KeymapDefaults.f
  rw [hl, hr]
  simp only [Option.bind_some]
  refine Ev.bind (same_tells l (by omega)) (Ev.congr (fun k => if_pos rfl) (Ev.bind (valid_tells l) ?_))
  rw [hv]
  refine Ev.shiftE 1 (f := fun k => (keymap_Find.f k l s).bind fun a => (jobshellref45_Find.f k l s).bind fun b => if a.1 = b.1 then (if a.2 = b.2 then (jobshelllaw45_awake.f k).bind fun t => some t else some false) else some false) (fun k => ?_) ?_
  · rw [jobshelllaw45_KeymapDefaults.j0, if_neg (by decide), hr]
    rfl
  · refine Ev.bind (find_tells l s (by omega)) (Ev.bind (reffind_tells l s (by omega)) (Ev.congr (fun k => ?_) (Ev.bind awake_ev (Ev.now _))))
    rw [if_pos rfl, if_pos rfl]
end Go.Proofs.YtklcndfnboieoaaDoor.K
