/- What the arguments of EditorDoes read as. -/
import Derived.Test.YtlbbjdggebgabaaRDM1
import Derived.Test.YtlbbjdggebgabaaRDPx93
namespace Go.Proofs.Ytlbbjdggebgabaa.editorDoes
open Go Go.RowKit Go.Proofs.YtlbbjdggebgabaaW.PrintWords Go.Proofs.Ytlbbjdggebgabaa.P Go.Proofs.Ytlbbjdggebgabaa.Op
set_option linter.unusedVariables false
def ok23 (x : S23) : Prop := x.f0.size ≤ 140737488351232 ∧ (Lit.int .i64 x.f1).wf = true
theorem open23 : Opens Try.prog 23 k23 ok23 := by
  apply opens_struct (d := (Kd.pair Kd.string (Kd.int .i64))) (S := fun y => (y.1.size ≤ 140737488351232 ∧ (Lit.int .i64 y.2).wf = true)) Try.underlying23 (by kernel_rfl) (fun x : S23 => (x.f0, x.f1)) (fun y => (⟨y.1, y.2⟩ : S23)) (fun _ => rfl)
  apply opensFs_cons (d0 := Kd.string) (d := (Kd.int .i64)) (S0 := fun y => y.size ≤ 140737488351232) (S := fun y => (Lit.int .i64 y).wf = true)
  · rfl
  · kernel_rfl
  · exact (opens_string Try.underlying9)
  apply opensFs_one (d := (Kd.int .i64)) (S := fun y => (Lit.int .i64 y).wf = true)
  · rfl
  · kernel_rfl
  · exact (opens_int Try.underlying3)
def ok27 (x : S27) : Prop := ok23 x.f0 ∧ (Lit.int .i64 x.f1).wf = true ∧ SL 16 (fun x => x.size ≤ 140737488351232) x.f2 ∧ SL 24 ok23 x.f3 ∧ SL 24 ok23 x.f4 ∧ x.f5.size ≤ 140737488351232 ∧ (Lit.int .i64 x.f6).wf = true ∧ (Lit.int .i64 x.f7).wf = true ∧ x.f8.size ≤ 140737488351232
theorem open27 : Opens Try.prog 27 k27 ok27 := by
  apply opens_struct (d := (Kd.pair k23 (Kd.pair (Kd.int .i64) (Kd.pair (Kd.slice 9 Kd.string) (Kd.pair (Kd.slice 23 k23) (Kd.pair (Kd.slice 23 k23) (Kd.pair Kd.string (Kd.pair (Kd.int .i64) (Kd.pair (Kd.int .i64) Kd.string))))))))) (S := fun y => (ok23 y.1 ∧ ((Lit.int .i64 y.2.1).wf = true ∧ (SL 16 (fun x => x.size ≤ 140737488351232) y.2.2.1 ∧ (SL 24 ok23 y.2.2.2.1 ∧ (SL 24 ok23 y.2.2.2.2.1 ∧ (y.2.2.2.2.2.1.size ≤ 140737488351232 ∧ ((Lit.int .i64 y.2.2.2.2.2.2.1).wf = true ∧ ((Lit.int .i64 y.2.2.2.2.2.2.2.1).wf = true ∧ y.2.2.2.2.2.2.2.2.size ≤ 140737488351232))))))))) Try.underlying27 (by kernel_rfl) (fun x : S27 => (x.f0, x.f1, x.f2, x.f3, x.f4, x.f5, x.f6, x.f7, x.f8)) (fun y => (⟨y.1, y.2.1, y.2.2.1, y.2.2.2.1, y.2.2.2.2.1, y.2.2.2.2.2.1, y.2.2.2.2.2.2.1, y.2.2.2.2.2.2.2.1, y.2.2.2.2.2.2.2.2⟩ : S27)) (fun _ => rfl)
  apply opensFs_cons (d0 := k23) (d := (Kd.pair (Kd.int .i64) (Kd.pair (Kd.slice 9 Kd.string) (Kd.pair (Kd.slice 23 k23) (Kd.pair (Kd.slice 23 k23) (Kd.pair Kd.string (Kd.pair (Kd.int .i64) (Kd.pair (Kd.int .i64) Kd.string)))))))) (S0 := fun y => ok23 y) (S := fun y => ((Lit.int .i64 y.1).wf = true ∧ (SL 16 (fun x => x.size ≤ 140737488351232) y.2.1 ∧ (SL 24 ok23 y.2.2.1 ∧ (SL 24 ok23 y.2.2.2.1 ∧ (y.2.2.2.2.1.size ≤ 140737488351232 ∧ ((Lit.int .i64 y.2.2.2.2.2.1).wf = true ∧ ((Lit.int .i64 y.2.2.2.2.2.2.1).wf = true ∧ y.2.2.2.2.2.2.2.size ≤ 140737488351232))))))))
  · rfl
  · kernel_rfl
  · exact open23
  apply opensFs_cons (d0 := (Kd.int .i64)) (d := (Kd.pair (Kd.slice 9 Kd.string) (Kd.pair (Kd.slice 23 k23) (Kd.pair (Kd.slice 23 k23) (Kd.pair Kd.string (Kd.pair (Kd.int .i64) (Kd.pair (Kd.int .i64) Kd.string))))))) (S0 := fun y => (Lit.int .i64 y).wf = true) (S := fun y => (SL 16 (fun x => x.size ≤ 140737488351232) y.1 ∧ (SL 24 ok23 y.2.1 ∧ (SL 24 ok23 y.2.2.1 ∧ (y.2.2.2.1.size ≤ 140737488351232 ∧ ((Lit.int .i64 y.2.2.2.2.1).wf = true ∧ ((Lit.int .i64 y.2.2.2.2.2.1).wf = true ∧ y.2.2.2.2.2.2.size ≤ 140737488351232)))))))
  · rfl
  · kernel_rfl
  · exact (opens_int Try.underlying3)
  apply opensFs_cons (d0 := (Kd.slice 9 Kd.string)) (d := (Kd.pair (Kd.slice 23 k23) (Kd.pair (Kd.slice 23 k23) (Kd.pair Kd.string (Kd.pair (Kd.int .i64) (Kd.pair (Kd.int .i64) Kd.string)))))) (S0 := fun y => SL 16 (fun x => x.size ≤ 140737488351232) y) (S := fun y => (SL 24 ok23 y.1 ∧ (SL 24 ok23 y.2.1 ∧ (y.2.2.1.size ≤ 140737488351232 ∧ ((Lit.int .i64 y.2.2.2.1).wf = true ∧ ((Lit.int .i64 y.2.2.2.2.1).wf = true ∧ y.2.2.2.2.2.size ≤ 140737488351232))))))
  · rfl
  · kernel_rfl
  · exact (opens_slice (B := 16) Try.underlying24 (by kernel_rfl) (by kernel_rfl) (opens_string Try.underlying9))
  apply opensFs_cons (d0 := (Kd.slice 23 k23)) (d := (Kd.pair (Kd.slice 23 k23) (Kd.pair Kd.string (Kd.pair (Kd.int .i64) (Kd.pair (Kd.int .i64) Kd.string))))) (S0 := fun y => SL 24 ok23 y) (S := fun y => (SL 24 ok23 y.1 ∧ (y.2.1.size ≤ 140737488351232 ∧ ((Lit.int .i64 y.2.2.1).wf = true ∧ ((Lit.int .i64 y.2.2.2.1).wf = true ∧ y.2.2.2.2.size ≤ 140737488351232)))))
  · rfl
  · kernel_rfl
  · exact (opens_slice (B := 24) Try.underlying25 (by kernel_rfl) (by kernel_rfl) open23)
  apply opensFs_cons (d0 := (Kd.slice 23 k23)) (d := (Kd.pair Kd.string (Kd.pair (Kd.int .i64) (Kd.pair (Kd.int .i64) Kd.string)))) (S0 := fun y => SL 24 ok23 y) (S := fun y => (y.1.size ≤ 140737488351232 ∧ ((Lit.int .i64 y.2.1).wf = true ∧ ((Lit.int .i64 y.2.2.1).wf = true ∧ y.2.2.2.size ≤ 140737488351232))))
  · rfl
  · kernel_rfl
  · exact (opens_slice (B := 24) Try.underlying25 (by kernel_rfl) (by kernel_rfl) open23)
  apply opensFs_cons (d0 := Kd.string) (d := (Kd.pair (Kd.int .i64) (Kd.pair (Kd.int .i64) Kd.string))) (S0 := fun y => y.size ≤ 140737488351232) (S := fun y => ((Lit.int .i64 y.1).wf = true ∧ ((Lit.int .i64 y.2.1).wf = true ∧ y.2.2.size ≤ 140737488351232)))
  · rfl
  · kernel_rfl
  · exact (opens_string Try.underlying9)
  apply opensFs_cons (d0 := (Kd.int .i64)) (d := (Kd.pair (Kd.int .i64) Kd.string)) (S0 := fun y => (Lit.int .i64 y).wf = true) (S := fun y => ((Lit.int .i64 y.1).wf = true ∧ y.2.size ≤ 140737488351232))
  · rfl
  · kernel_rfl
  · exact (opens_int Try.underlying3)
  apply opensFs_cons (d0 := (Kd.int .i64)) (d := Kd.string) (S0 := fun y => (Lit.int .i64 y).wf = true) (S := fun y => y.size ≤ 140737488351232)
  · rfl
  · kernel_rfl
  · exact (opens_int Try.underlying3)
  apply opensFs_one (d := Kd.string) (S := fun y => y.size ≤ 140737488351232)
  · rfl
  · kernel_rfl
  · exact (opens_string Try.underlying9)
def ok36 (x : S36) : Prop := (Lit.int .i64 x.f0).wf = true ∧ x.f1.size ≤ 140737488351232
theorem open36 : Opens Try.prog 36 k36 ok36 := by
  apply opens_struct (d := (Kd.pair (Kd.int .i64) Kd.string)) (S := fun y => ((Lit.int .i64 y.1).wf = true ∧ y.2.size ≤ 140737488351232)) Try.underlying36 (by kernel_rfl) (fun x : S36 => (x.f0, x.f1)) (fun y => (⟨y.1, y.2⟩ : S36)) (fun _ => rfl)
  apply opensFs_cons (d0 := (Kd.int .i64)) (d := Kd.string) (S0 := fun y => (Lit.int .i64 y).wf = true) (S := fun y => y.size ≤ 140737488351232)
  · rfl
  · kernel_rfl
  · exact (opens_int Try.underlying3)
  apply opensFs_one (d := Kd.string) (S := fun y => y.size ≤ 140737488351232)
  · rfl
  · kernel_rfl
  · exact (opens_string Try.underlying9)
def ok38 (x : S38) : Prop := (Lit.int .i64 x.f0).wf = true ∧ SL 16 (fun x => x.size ≤ 140737488351232) x.f1
theorem open38 : Opens Try.prog 38 k38 ok38 := by
  apply opens_struct (d := (Kd.pair (Kd.int .i64) (Kd.slice 9 Kd.string))) (S := fun y => ((Lit.int .i64 y.1).wf = true ∧ SL 16 (fun x => x.size ≤ 140737488351232) y.2)) Try.underlying38 (by kernel_rfl) (fun x : S38 => (x.f0, x.f1)) (fun y => (⟨y.1, y.2⟩ : S38)) (fun _ => rfl)
  apply opensFs_cons (d0 := (Kd.int .i64)) (d := (Kd.slice 9 Kd.string)) (S0 := fun y => (Lit.int .i64 y).wf = true) (S := fun y => SL 16 (fun x => x.size ≤ 140737488351232) y)
  · rfl
  · kernel_rfl
  · exact (opens_int Try.underlying3)
  apply opensFs_one (d := (Kd.slice 9 Kd.string)) (S := fun y => SL 16 (fun x => x.size ≤ 140737488351232) y)
  · rfl
  · kernel_rfl
  · exact (opens_slice (B := 16) Try.underlying24 (by kernel_rfl) (by kernel_rfl) (opens_string Try.underlying9))
def Pure : Prop := ∀ (a0 : S27) (a1 : S36) (a2 : S38), ok27 a0 → ok36 a1 → ok38 a2 → ∃ k, jobshelllaw46_EditorDoes.f k a0.f0.f0 a0.f0.f1 a0.f1 a0.f2 a0.f3 a0.f4 a0.f5 a0.f6 a0.f7 a0.f8 a1.f0 a1.f1 a2.f0 a2.f1 = some true
end Go.Proofs.Ytlbbjdggebgabaa.editorDoes
