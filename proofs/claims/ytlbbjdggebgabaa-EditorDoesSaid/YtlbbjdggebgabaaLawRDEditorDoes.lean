/- EditorDoes: the row, out of its pure statement and the printed walk. -/
import Derived.Test.YtlbbjdggebgabaaRows
import Derived.Test.YtlbbjdggebgabaaRDPureEditorDoes
import Derived.Test.YtlbbjdggebgabaaRDArgsEditorDoes
import Derived.WalkKit
import Derived.ProofKit
import Derived.OpenShut
import Derived.ShutString
import Derived.ChangeOld
import Derived.Below
import Derived.SizedLaws
import Derived.Deep.DeepHandedRow
namespace Go.Proofs.Ytlbbjdggebgabaa.editorDoes
open Go Go.ChangeShapes Go.WideShapes Go.ChangeAt Go.RowKit Go.Proofs.YtlbbjdggebgabaaW.PrintWords Go.Proofs.Ytlbbjdggebgabaa.P Go.Proofs.Ytlbbjdggebgabaa.Op
set_option linter.unusedVariables false

theorem own : ownKnob Try.prog.godebug = none := by kernel_rfl
theorem laidOut : laidOutB Try.prog = true := by kernel_rfl

noncomputable def laidWorld (os : Os) : World := World.holding Try.prog os ⟨#[], #[], []⟩
theorem laid_met (os : Os) : laidMet Try.prog Rows.editorDoesRow.laid ((laidWorld os).forCall (fun _ _ => 0) ⟨#[], #[.agg #[.string ByteArray.empty, .int .i64 0, .int .i64 0, .slice none 0 0, .slice none 0 0, .slice none 0 0, .string ByteArray.empty, .int .i64 0, .int .i64 0, .string ByteArray.empty], .agg #[.int .i64 0, .string ByteArray.empty], .agg #[.int .i64 0, .slice none 0 0]], []⟩).memory :=
  ⟨[], rfl, List.nodup_nil, fun _ _ h => by cases h⟩
theorem reads (os : Os) {H : Type} (enc : TypeId × Value → H) : ∃ places, DataW.whole enc Try.prog ((laidWorld os).forCall (fun _ _ => 0) ⟨#[], #[.agg #[.string ByteArray.empty, .int .i64 0, .int .i64 0, .slice none 0 0, .slice none 0 0, .slice none 0 0, .string ByteArray.empty, .int .i64 0, .int .i64 0, .string ByteArray.empty], .agg #[.int .i64 0, .string ByteArray.empty], .agg #[.int .i64 0, .slice none 0 0]], []⟩).memory Try.f4.params.toList Rows.editorDoesSpec.vars false (#[.agg #[.string ByteArray.empty, .int .i64 0, .int .i64 0, .slice none 0 0, .slice none 0 0, .slice none 0 0, .string ByteArray.empty, .int .i64 0, .int .i64 0, .string ByteArray.empty], .agg #[.int .i64 0, .string ByteArray.empty], .agg #[.int .i64 0, .slice none 0 0]] : Array Value).toList 8 = some ([.agg [.agg [.lit (.string []), .lit (.int .i64 0)], .lit (.int .i64 0), .nil, .nil, .nil, .lit (.string []), .lit (.int .i64 0), .lit (.int .i64 0), .lit (.string [])], .agg [.lit (.int .i64 0), .lit (.string [])], .agg [.lit (.int .i64 0), .nil]], [], places) :=
  ⟨[], by kernel_rfl⟩

theorem contract (H : Type) (enc : TypeId × Value → H) (W : World) (base : Nat) (args : Array Value) (ds gs : List (DataW H)) (before : List MemPlace)
    (hval : ∀ (j : Nat) t v, Try.f4.params[j]? = some t → args[j]? = some v → Value.okWide Try.prog W .any base t v)
    (hW : DataW.Whole enc Try.prog Try.f4.params.toList Rows.editorDoesSpec.vars false W args.toList ds gs before) (hsz : (DataW.weightsEach Try.prog (Try.f4.params.toList ++ (OpenSpec.ofChange Rows.editorDoesSpec).bare.plain.varTypes Try.prog) (ds ++ gs)).all (· ≤ reachBytes) = true) :
    Calls Try.prog 4 args W fun e W' => ∃ v, e = .returned v ∧ Rows.editorDoesSpec.post enc Try.prog Try.f4 false true false false W args v W' := by
  have hW' := hW
  obtain ⟨p, q, hA0, hV, rfl, hfz, hnd⟩ := hW
  have hA : DataW.TrodAll enc Try.prog W 0 (fun _ => true) true Try.f4.params.toList args.toList ds p := hA0
  rw [Try.params4] at hA hval hsz
  obtain ⟨v0, vs0, d0, ds0, p0, q0, hargs, rfl, rfl, h0, r0⟩ := trodAll_cons hA
  obtain ⟨v1, vs1, d1, ds1, p1, q1, rfl, rfl, rfl, h1, r1⟩ := trodAll_cons r0
  obtain ⟨v2, vs2, d2, ds2, p2, q2, rfl, rfl, rfl, h2, r2⟩ := trodAll_cons r1
  obtain ⟨rfl, rfl, rfl⟩ := trodAll_nil r2
  obtain rfl : args = #[v0, v1, v2] := by cases args; simp_all
  obtain ⟨rfl, rfl⟩ := trodVars_none hV
  simp only [List.append_nil] at hW'
  have kk0 := h0
  have lt0 : ∀ x ∈ p0, x.block < W.heap.size := by obtain ⟨m, hm⟩ := kk0; exact DataW.trod_lt m _ _ _ hm
  obtain ⟨fu0, hf0⟩ := h0
  obtain ⟨a0, ka0, sa0⟩ := (show Opens Try.prog 27 k27 ok27 from open27) enc W 0 _ _ fu0 _ d0 p0 hf0 (weights_at hsz (j := 0) rfl rfl)
  obtain ⟨cs0, rfl, _, _⟩ := okWide_agg_ Try.underlying27 (hval 0 27 v0 rfl rfl)
  obtain ⟨A0_3, c0_3, A0_4, c0_4, A0_5, c0_5, e0, l0_3, g0_3, l0_4, g0_4, l0_5, g0_5⟩ := k27_open ka0
  have e0' : cs0.toList = _ := e0
  have e0'' := congrArg List.toArray e0'
  rw [Array.toArray_toList] at e0''
  subst e0''
  have kk1 := h1
  have lt1 : ∀ x ∈ p1, x.block < W.heap.size := by obtain ⟨m, hm⟩ := kk1; exact DataW.trod_lt m _ _ _ hm
  obtain ⟨fu1, hf1⟩ := h1
  obtain ⟨a1, ka1, sa1⟩ := (show Opens Try.prog 36 k36 ok36 from open36) enc W 0 _ _ fu1 _ d1 p1 hf1 (weights_at hsz (j := 1) rfl rfl)
  obtain ⟨cs1, rfl, _, _⟩ := okWide_agg_ Try.underlying36 (hval 1 36 v1 rfl rfl)
  obtain e1 := k36_open ka1
  have e1' : cs1.toList = _ := e1
  have e1'' := congrArg List.toArray e1'
  rw [Array.toArray_toList] at e1''
  subst e1''
  have kk2 := h2
  have lt2 : ∀ x ∈ p2, x.block < W.heap.size := by obtain ⟨m, hm⟩ := kk2; exact DataW.trod_lt m _ _ _ hm
  obtain ⟨fu2, hf2⟩ := h2
  obtain ⟨a2, ka2, sa2⟩ := (show Opens Try.prog 38 k38 ok38 from open38) enc W 0 _ _ fu2 _ d2 p2 hf2 (weights_at hsz (j := 2) rfl rfl)
  obtain ⟨cs2, rfl, _, _⟩ := okWide_agg_ Try.underlying38 (hval 2 38 v2 rfl rfl)
  obtain ⟨A2_1, c2_1, e2, l2_1, g2_1⟩ := k38_open ka2
  have e2' : cs2.toList = _ := e2
  have e2'' := congrArg List.toArray e2'
  rw [Array.toArray_toList] at e2''
  subst e2''
  obtain ⟨k, hk⟩ := Pure.EditorDoes a0 a1 a2 sa0 sa1 sa2
  refine (jobshelllaw46_EditorDoes.calls k (a0.f0.f0) (a0.f0.f1) (a0.f1) _ _ (a0.f2) _ _ (a0.f3) _ _ (a0.f4) (a0.f5) (a0.f6) (a0.f7) (a0.f8) (a1.f0) (a1.f1) (a2.f0) _ _ (a2.f1) true W g0_3 l0_3 g0_4 l0_4 g0_5 l0_5 g2_1 l2_1 hk).mono fun e W' ⟨he, bel0⟩ => ?_
  have bel : Below W.heap.size W W' := bel0
  subst he
  exact ⟨_, rfl, _, _, _, [], _, [], hW', trodAll_mk1 (shut_bool Try.underlying4 _), (trodAll_cons_mk (Below.trod laidOut (by kernel_rfl) (of_decide_eq_true (by kernel_rfl)) kk0 bel lt0) (trodAll_cons_mk (Below.trod laidOut (by kernel_rfl) (of_decide_eq_true (by kernel_rfl)) kk1 bel lt1) (trodAll_cons_mk (Below.trod laidOut (by kernel_rfl) (of_decide_eq_true (by kernel_rfl)) kk2 bel lt2) trodAll_mk0))), rfl, bel.frame _, fun h => by cases h⟩

set_option maxRecDepth 100000 in
theorem lifted (os : Os) (started : os.Started) (H : Type) (enc : TypeId × Value → H) (F : Stop.Interp) :
    ReturnsInHanded {} Try.checked os 4 .any ((OpenSpec.ofChange Rows.editorDoesSpec).preRow enc Try.prog Try.f4 Rows.editorDoesRow.domain false Rows.editorDoesRow.laid) (((OpenSpec.ofChange Rows.editorDoesSpec).at F).post enc Try.prog Try.f4 false true false false) := by
  obtain ⟨places, hx⟩ := reads os enc
  refine returnsInHanded_of_row (C := Try.checked) (s := OpenSpec.ofChange Rows.editorDoesSpec) own started (by kernel_rfl) Try.func4
    (witness_row_at (enc := enc) (C := Try.checked) false (laidWorld os) #[.agg #[.string ByteArray.empty, .int .i64 0, .int .i64 0, .slice none 0 0, .slice none 0 0, .slice none 0 0, .string ByteArray.empty, .int .i64 0, .int .i64 0, .string ByteArray.empty], .agg #[.int .i64 0, .string ByteArray.empty], .agg #[.int .i64 0, .slice none 0 0]] rfl (by kernel_rfl) (by kernel_rfl) (by kernel_rfl)
      (OpenSpec.preRow_of_cond 8 hx (by kernel_rfl) (fun k hk => by cases hk) (by kernel_rfl) (laid_met os))) ?_
  intro W base args ds gs before hval hW _ _ hsz hL _ _
  exact contract H enc W base args ds gs before hval hW hsz

theorem said : Rows.EditorDoesSaid :=
  OpenClaim.holds_of_cond 4 Try.f4 rfl rfl rfl rfl rfl rfl rfl ⟨rfl, rfl, rfl, rfl, rfl⟩ rfl rfl rfl rfl rfl (by kernel_rfl) Try.func4 (by kernel_rfl)
    (of_decide_eq_true (by kernel_rfl)) (by unfold Func.isWrapper; first | (rw [if_pos (by decide +kernel)]; kernel_rfl) | (rw [if_neg (by decide +kernel)]; exact ⟨rfl, rfl⟩))
    (fun os started H enc _ F => by rw [OpenClaim.pre_eq_preRow]; exact lifted os started H enc F)
#print axioms said
end Go.Proofs.Ytlbbjdggebgabaa.editorDoes
