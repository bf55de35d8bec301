/- Texts of this claim, joined: R9, R10, R11, R12. -/
import Derived.Test.YtlbbjdggebgabaaRDM8
import Derived.StillTailTactics
import Derived.Test.YtlbbjdggebgabaaRDM3
import Derived.Test.YtlbbjdggebgabaaRDM4
section
/- The reference's transpose. -/
namespace Go.Proofs.Ytlbbjdggebgabaa.P
open Go.RowKit Go.Proofs.YtlbbjdggebgabaaW.PrintWords Go.Proofs.YtlbbjdggebgabaaW.PrintLast Go.Proofs.YtlbbjdggebgabaaW.PrintMore
set_option linter.unusedVariables false
set_option linter.unusedSimpArgs false

theorem EdV.drew {W : World} {P : Nat → Prop} {s : St} {v : Value} (h : EdV W P s v) : EdV W.drew P s v := h.below (below_drew (Below.refl _ _))
theorem put_edVd {w W : World} {rb : Nat} {s : St} {P : Nat → Prop} {Ak Au Ar : Option Addr} {ck cu cr : Nat} {z0 z1 z2 z3 z4 z5 z6 z7 z8 z9 : Value} (H3 : Kd.V Kd.string 9 W 0 P (.slice Ak s.kills.length ck) s.kills) (H4 : Kd.V k23 23 W 0 P (.slice Au s.undo.length cu) s.undo) (H5 : Kd.V k23 23 W 0 P (.slice Ar s.redo.length cr) s.redo) (hP : ∀ k, P k → k ≠ rb)
    (hrb : W.heap[rb]? = some (.cells #[z0, z1, z2, z3, z4, z5, z6, z7, z8, z9] 27 (0, 0))) (hb : Below w.heap.size w W) (hr : w.heap.size ≤ rb) :
    (fillW W rb (.string s.text) (.int .i64 s.pos) (.int .i64 s.mark) (.slice Ak s.kills.length ck) (.slice Au s.undo.length cu) (.slice Ar s.redo.length cr) (.string s.keys) (.int .i64 s.last) (.int .i64 s.line) (.string s.saved)).drew.heap[rb]? = some (.cells #[.string s.text, .int .i64 s.pos, .int .i64 s.mark, .slice Ak s.kills.length ck, .slice Au s.undo.length cu, .slice Ar s.redo.length cr, .string s.keys, .int .i64 s.last, .int .i64 s.line, .string s.saved] 27 (0, 0)) ∧ EdV (fillW W rb (.string s.text) (.int .i64 s.pos) (.int .i64 s.mark) (.slice Ak s.kills.length ck) (.slice Au s.undo.length cu) (.slice Ar s.redo.length cr) (.string s.keys) (.int .i64 s.last) (.int .i64 s.line) (.string s.saved)).drew P s (.agg #[.string s.text, .int .i64 s.pos, .int .i64 s.mark, .slice Ak s.kills.length ck, .slice Au s.undo.length cu, .slice Ar s.redo.length cr, .string s.keys, .int .i64 s.last, .int .i64 s.line, .string s.saved]) ∧ Below w.heap.size w (fillW W rb (.string s.text) (.int .i64 s.pos) (.int .i64 s.mark) (.slice Ak s.kills.length ck) (.slice Au s.undo.length cu) (.slice Ar s.redo.length cr) (.string s.keys) (.int .i64 s.last) (.int .i64 s.line) (.string s.saved)).drew := by
  obtain ⟨y1, y2, y3⟩ := put_edV H3 H4 H5 hP hrb hb hr
  exact ⟨blk_drew y1, EdV.drew y2, below_drew y3⟩

set_option maxHeartbeats 16000000 in
set_option maxRecDepth 100000 in
theorem rtrans_calls (w : World) (P : Nat → Prop) (s : St) (v : Value) (hv : EdV w P s v) (ok : OkS s) (hm : s.mark ≤ s.text.size) :
    Calls Try.prog 52 #[v] w fun e w' => ∃ v', e = .returned v' ∧ EdV w' (fun k => P k ∨ w.heap.size ≤ k) (transS s) v' ∧ Below w.heap.size w w' := by
  have hvo := hv.old
  obtain ⟨P0, hP0⟩ : ∃ Q : Nat → Prop, Q = fun k => P k ∧ k < w.heap.size := ⟨_, rfl⟩
  rw [← hP0] at hvo
  have hp1 : ∀ k, P0 k → P k ∧ k < w.heap.size := by intro k hk; rw [hP0] at hk; exact hk
  clear hP0
  obtain ⟨Ak, Au, Ar, ck, cu, cr, rfl, v1, v2, v3⟩ := hvo
  have hu27 := Try.underlying27
  have hu23 := Try.underlying23
  obtain ⟨w1, hw1⟩ : ∃ z, z = (w.alloc (.cells #[.string s.text, .int .i64 s.pos, .int .i64 s.mark, .slice Ak s.kills.length ck, .slice Au s.undo.length cu, .slice Ar s.redo.length cr, .string s.keys, .int .i64 s.last, .int .i64 s.line, .string s.saved] 27)).alloc (.cells #[.string ⟨#[]⟩, .int .i64 0, .int .i64 0, .slice none 0 0, .slice none 0 0, .slice none 0 0, .string ⟨#[]⟩, .int .i64 0, .int .i64 0, .string ⟨#[]⟩] 27) := ⟨_, rfl⟩
  obtain ⟨b1, b2, b3, b4⟩ := box2 w #[.string s.text, .int .i64 s.pos, .int .i64 s.mark, .slice Ak s.kills.length ck, .slice Au s.undo.length cu, .slice Ar s.redo.length cr, .string s.keys, .int .i64 s.last, .int .i64 s.line, .string s.saved] #[.string ⟨#[]⟩, .int .i64 0, .int .i64 0, .slice none 0 0, .slice none 0 0, .slice none 0 0, .string ⟨#[]⟩, .int .i64 0, .int .i64 0, .string ⟨#[]⟩] 27 27
  rw [← hw1] at b1 b2 b3 b4
  have HE := Aside0.mk b1
  have HR := Aside0.mk b2
  have HB1 := Aside0.mk b3
  have HSZ := Aside0.mk b4
  have HP1 := Aside0.mk hp1
  have HW1 := Aside0.mk hw1
  have HV := Aside0.mk (show EdV w1 P0 s (edV s (.slice Ak s.kills.length ck) (.slice Au s.undo.length cu) (.slice Ar s.redo.length cr)) from ⟨Ak, Au, Ar, ck, cu, cr, rfl, Kd.V_below v1 b3, Kd.V_below v2 b3, Kd.V_below v3 b3⟩)
  have K1 := Aside0.mk (Kd.V_below v1 b3)
  have K2 := Aside0.mk (Kd.V_below v2 b3)
  have K3 := Aside0.mk (Kd.V_below v3 b3)
  unfold edV at HV hv ⊢
  obtain ⟨d0, d1, d2, d3, d4, d5, d6, d7, d8, d9⟩ := Box.cells (s := s) b1
  clear hv v1 v2 v3 hw1 b1 b2 b3 b4 hp1
  clear d0 d1 d2 d3 d4 d5 d6 d7 d8 d9
  have h0 := ok.low
  have h1 := ok.high
  have hs := ok.text
  have HOK := Aside0.mk ok
  obtain ⟨n, hn⟩ : ∃ n : Nat, s.pos = (n : Int) := ⟨s.pos.toNat, by omega⟩
  clear ok
  by_cases c1 : s.text.size < 2
  · have hz : transS s = s := by unfold transS; rw [if_pos (.inl c1)]
    rw [hz]
    have g1 : decide ((s.text.size : Int) < 2) = true := decide_eq_true (by omega)
    have g2 : decide (s.text.size < 2) = true := decide_eq_true (by omega)
    clear hz c1 hn
    go_enter Try.func52, Try.ntmps52
    go_upto_region 1 with (fail)
    rw [← HW1.out]
    obtain ⟨d0, d1, d2, d3, d4, d5, d6, d7, d8, d9⟩ := Box.cells (s := s) HE.out
    go_region
    have hqr := blk_frozen HR.out
    obtain ⟨r0, r1, r2, r3, r4, r5, r6, r7, r8, r9⟩ := ten_cells HR.out
    go_wp2_with (fail)
    obtain ⟨y1, y2, y3⟩ := put_edVd (w := w) (s := s) (rb := w.heap.size + 1) K1.out K2.out K3.out (fun k hk => by have := (HP1.out k hk).2; omega) HR.out HB1.out (by omega)
    refine bodyPost_ret (results_cell_row rfl _ _ (w.heap.size + 1) 27 _ (0, 0) _ rfl y1 hu27 rfl (by first | rfl | decide)) rfl ?_
    exact ⟨_, rfl, y2.mono (fun k hk => .inl (HP1.out k hk).1), y3⟩
  have g1 : decide ((s.text.size : Int) < 2) = false := decide_eq_false (by omega)
  have g2 : decide (s.text.size < 2) = false := decide_eq_false (by omega)
  by_cases c2 : s.pos = 0
  · have hz : transS s = s := by unfold transS; rw [if_pos (.inr c2)]
    rw [hz]
    have g3 : (s.pos == 0) = true := beq_iff_eq.mpr c2
    clear hz c1 c2 hn
    go_enter Try.func52, Try.ntmps52
    go_upto_region 1 with (fail)
    rw [← HW1.out]
    obtain ⟨d0, d1, d2, d3, d4, d5, d6, d7, d8, d9⟩ := Box.cells (s := s) HE.out
    go_region
    have hqr := blk_frozen HR.out
    obtain ⟨r0, r1, r2, r3, r4, r5, r6, r7, r8, r9⟩ := ten_cells HR.out
    go_wp2_with (fail)
    obtain ⟨y1, y2, y3⟩ := put_edVd (w := w) (s := s) (rb := w.heap.size + 1) K1.out K2.out K3.out (fun k hk => by have := (HP1.out k hk).2; omega) HR.out HB1.out (by omega)
    refine bodyPost_ret (results_cell_row rfl _ _ (w.heap.size + 1) 27 _ (0, 0) _ rfl y1 hu27 rfl (by first | rfl | decide)) rfl ?_
    exact ⟨_, rfl, y2.mono (fun k hk => .inl (HP1.out k hk).1), y3⟩
  have g3 : (s.pos == 0) = false := beq_eq_false_iff_ne.mpr c2
  by_cases c3 : s.pos = (s.text.size : Int)
  · have g4 : (s.pos == (s.text.size : Int)) = true := beq_iff_eq.mpr c3
    have hz : transS s = (setS s 19 (((s.text.extract 0 (s.pos - 1 - 1).toNat ++ s.text.extract (s.pos - 1).toNat (s.pos - 1 + 1).toNat) ++ s.text.extract (s.pos - 1 - 1).toNat (s.pos - 1).toNat) ++ s.text.extract (s.pos - 1 + 1).toNat s.text.size) (s.pos - 1 + 1)).1 := by
      unfold transS
      rw [if_neg (by omega), if_pos c3, show s.text.size - 1 = (s.text.size - 2) + 1 by omega, swap_cut s.text (s.text.size - 2) (by omega)]
      rw [show (s.pos - 1 - 1).toNat = s.text.size - 2 by omega, show (s.pos - 1).toNat = s.text.size - 2 + 1 by omega, show (s.pos - 1 + 1).toNat = s.text.size - 2 + 2 by omega, show s.pos - 1 + 1 = s.pos by omega]
    rw [hz]
    obtain ⟨C, hC⟩ : ∃ C, s.pos - 1 = C := ⟨_, rfl⟩
    rw [hC]
    obtain ⟨A, hA⟩ : ∃ A, A = C - 1 := ⟨_, rfl⟩
    obtain ⟨B, hB⟩ : ∃ B, B = C + 1 := ⟨_, rfl⟩
    rw [← hA, ← hB]
    have u1 : IntKind.i64.wrap (C - 1) = A := by rw [IntKind.wrap_i64]; omega
    have u2 : IntKind.i64.wrap (C + 1) = B := by rw [IntKind.wrap_i64]; omega
    have u3 : 0 ≤ A := by omega
    have u4 : A ≤ (s.text.size : Int) := by omega
    have u5 : A ≤ C := by omega
    have u6 : C ≤ B := by omega
    have u7 : B ≤ (s.text.size : Int) := by omega
    have u8 : 0 ≤ B := by omega
    have u9 : C ≤ (s.text.size : Int) := by omega
    have u0 : 0 ≤ C := by omega
    have v0 : min A.toNat s.text.size = A.toNat := by omega
    have v1 : (9223372036854775807 < A.toNat + (B.toNat - C.toNat)) = False := eq_false (by omega)
    have v2 : (9223372036854775807 < A.toNat + (B.toNat - C.toNat) + (C.toNat - A.toNat)) = False := eq_false (by omega)
    have v3 : (9223372036854775807 < A.toNat + (B.toNat - C.toNat) + (C.toNat - A.toNat) + (s.text.size - B.toNat)) = False := eq_false (by omega)
    clear hA hB
    clear hz c1 c2 c3 hn
    obtain ⟨S, hS⟩ : ∃ z, z = (setS s 19 (((s.text.extract 0 A.toNat ++ s.text.extract C.toNat B.toNat) ++ s.text.extract A.toNat C.toNat) ++ s.text.extract B.toNat s.text.size) B).1 := ⟨_, rfl⟩
    rw [← hS]
    have HS := Aside0.mk hS
    clear hS
    go_enter Try.func52, Try.ntmps52
    go_upto_region 1 with (fail)
    rw [← HW1.out]
    obtain ⟨d0, d1, d2, d3, d4, d5, d6, d7, d8, d9⟩ := Box.cells (s := s) HE.out
    go_region
    go_upto_region 6 with (fail)
    refine wp_region_still_tail 25 (by kernel_rfl) (by kernel_rfl) ?_
    change wpStill _ _ w1.drew.drew (fun a' => wpList _ _ _ _ a' w1.drew.drew) _ _
    simp only [List.take_succ_cons, List.take_zero, List.drop_succ_cons, List.drop_zero]
    repeat still_step
    refine wpStill_nil ?_
    go_wp2_with (first | (go_at_call 63; refine (redit_calls (w1.drew.drew) P0 s _ _ 19 _ (HV.out.below (below_drew (below_drew (Below.refl w1.heap.size w1)))) HOK.out.undo hm).mono ?_; rintro e w4 ⟨v4, rfl, hv4, hb⟩; have hbl := below_step (below_drew (below_drew (Below.refl w1.heap.size w1))) hb; have hv5 : EdV w4 (fun k => P0 k ∨ (w1.drew.drew).heap.size ≤ k) S v4 := (by rw [HS.out]; exact hv4); have HR4 := Aside0.mk (blk_below HR.out hbl); have HBL := Aside0.mk hbl; have hqr := blk_frozen HR4.out; obtain ⟨r0, r1, r2, r3, r4, r5, r6, r7, r8, r9⟩ := ten_cells HR4.out; obtain ⟨Ak4, Au4, Ar4, ck4, cu4, cr4, rfl, g1, g2, g3⟩ := hv5.opn; have G1 := Aside0.mk g1; have G2 := Aside0.mk g2; have G3 := Aside0.mk g3; clear hv4 hv5 hb hbl g1 g2 g3))
    obtain ⟨y1, y2, y3⟩ := put_edV (w := w) (s := S) (rb := w.heap.size + 1) G1.out G2.out G3.out (fun k hk => by have h1 := HP1.out k; have h2 := HSZ.out; rcases hk with hk | hk; exact (by have := (h1 hk).2; omega); exact (by have h3 : w1.heap.size ≤ k := hk; omega)) HR4.out (below_step HB1.out HBL.out) (by omega)
    refine bodyPost_ret (results_cell_row rfl _ _ (w.heap.size + 1) 27 _ (0, 0) _ rfl y1 hu27 rfl (by first | rfl | decide)) rfl ?_
    exact ⟨_, rfl, y2.mono (fun k hk => by have h1 := HP1.out k; have h2 := HSZ.out; rcases hk with hk | hk; exact .inl (h1 hk).1; exact .inr (by have h3 : w1.heap.size ≤ k := hk; omega)), y3⟩
  · have g4 : (s.pos == (s.text.size : Int)) = false := beq_eq_false_iff_ne.mpr c3
    have hz : transS s = (setS s 19 (((s.text.extract 0 (s.pos - 1).toNat ++ s.text.extract s.pos.toNat (s.pos + 1).toNat) ++ s.text.extract (s.pos - 1).toNat s.pos.toNat) ++ s.text.extract (s.pos + 1).toNat s.text.size) (s.pos + 1)).1 := by
      unfold transS
      obtain ⟨m, hm2⟩ : ∃ m : Nat, s.pos = ((m + 1 : Nat) : Int) := ⟨n - 1, by omega⟩
      rw [if_neg (by omega), if_neg c3, show s.pos.toNat = m + 1 by omega, show m + 1 - 1 = m by omega, swap_cut s.text m (by omega)]
      rw [show (s.pos - 1).toNat = m by omega, show (s.pos + 1).toNat = m + 2 by omega]
    rw [hz]
    obtain ⟨A, hA⟩ : ∃ A, A = s.pos - 1 := ⟨_, rfl⟩
    obtain ⟨B, hB⟩ : ∃ B, B = s.pos + 1 := ⟨_, rfl⟩
    rw [← hA, ← hB]
    have u1 : IntKind.i64.wrap (s.pos - 1) = A := by rw [IntKind.wrap_i64]; omega
    have u2 : IntKind.i64.wrap (s.pos + 1) = B := by rw [IntKind.wrap_i64]; omega
    have u3 : 0 ≤ A := by omega
    have u4 : A ≤ (s.text.size : Int) := by omega
    have u5 : A ≤ s.pos := by omega
    have u6 : s.pos ≤ B := by omega
    have u7 : B ≤ (s.text.size : Int) := by omega
    have u8 : 0 ≤ B := by omega
    have u9 : s.pos ≤ (s.text.size : Int) := by omega
    have u0 : 0 ≤ s.pos := by omega
    have v0 : min A.toNat s.text.size = A.toNat := by omega
    have v1 : (9223372036854775807 < A.toNat + (B.toNat - s.pos.toNat)) = False := eq_false (by omega)
    have v2 : (9223372036854775807 < A.toNat + (B.toNat - s.pos.toNat) + (s.pos.toNat - A.toNat)) = False := eq_false (by omega)
    have v3 : (9223372036854775807 < A.toNat + (B.toNat - s.pos.toNat) + (s.pos.toNat - A.toNat) + (s.text.size - B.toNat)) = False := eq_false (by omega)
    clear hA hB
    clear hz c1 c2 c3 hn
    obtain ⟨S, hS⟩ : ∃ z, z = (setS s 19 (((s.text.extract 0 A.toNat ++ s.text.extract s.pos.toNat B.toNat) ++ s.text.extract A.toNat s.pos.toNat) ++ s.text.extract B.toNat s.text.size) B).1 := ⟨_, rfl⟩
    rw [← hS]
    have HS := Aside0.mk hS
    clear hS
    go_enter Try.func52, Try.ntmps52
    go_upto_region 1 with (fail)
    rw [← HW1.out]
    obtain ⟨d0, d1, d2, d3, d4, d5, d6, d7, d8, d9⟩ := Box.cells (s := s) HE.out
    go_region
    go_upto_region 6 with (fail)
    refine wp_region_still_tail 25 (by kernel_rfl) (by kernel_rfl) ?_
    change wpStill _ _ w1.drew.drew (fun a' => wpList _ _ _ _ a' w1.drew.drew) _ _
    simp only [List.take_succ_cons, List.take_zero, List.drop_succ_cons, List.drop_zero]
    repeat still_step
    refine wpStill_nil ?_
    go_wp2_with (first | (go_at_call 63; refine (redit_calls (w1.drew.drew) P0 s _ _ 19 _ (HV.out.below (below_drew (below_drew (Below.refl w1.heap.size w1)))) HOK.out.undo hm).mono ?_; rintro e w4 ⟨v4, rfl, hv4, hb⟩; have hbl := below_step (below_drew (below_drew (Below.refl w1.heap.size w1))) hb; have hv5 : EdV w4 (fun k => P0 k ∨ (w1.drew.drew).heap.size ≤ k) S v4 := (by rw [HS.out]; exact hv4); have HR4 := Aside0.mk (blk_below HR.out hbl); have HBL := Aside0.mk hbl; have hqr := blk_frozen HR4.out; obtain ⟨r0, r1, r2, r3, r4, r5, r6, r7, r8, r9⟩ := ten_cells HR4.out; obtain ⟨Ak4, Au4, Ar4, ck4, cu4, cr4, rfl, g1, g2, g3⟩ := hv5.opn; have G1 := Aside0.mk g1; have G2 := Aside0.mk g2; have G3 := Aside0.mk g3; clear hv4 hv5 hb hbl g1 g2 g3))
    obtain ⟨y1, y2, y3⟩ := put_edV (w := w) (s := S) (rb := w.heap.size + 1) G1.out G2.out G3.out (fun k hk => by have h1 := HP1.out k; have h2 := HSZ.out; rcases hk with hk | hk; exact (by have := (h1 hk).2; omega); exact (by have h3 : w1.heap.size ≤ k := hk; omega)) HR4.out (below_step HB1.out HBL.out) (by omega)
    refine bodyPost_ret (results_cell_row rfl _ _ (w.heap.size + 1) 27 _ (0, 0) _ rfl y1 hu27 rfl (by first | rfl | decide)) rfl ?_
    exact ⟨_, rfl, y2.mono (fun k hk => by have h1 := HP1.out k; have h2 := HSZ.out; rcases hk with hk | hk; exact .inl (h1 hk).1; exact .inr (by have h3 : w1.heap.size ≤ k := hk; omega)), y3⟩
end Go.Proofs.Ytlbbjdggebgabaa.P
end

section
/- The reference's back. -/
namespace Go.Proofs.Ytlbbjdggebgabaa.P
open Go.RowKit Go.Proofs.YtlbbjdggebgabaaW.PrintWords Go.Proofs.YtlbbjdggebgabaaW.PrintLast Go.Proofs.YtlbbjdggebgabaaW.PrintMore
set_option linter.unusedVariables false
set_option linter.unusedSimpArgs false

theorem rlast_snap {w : World} {ad : Addr} {n : Nat} {l : List S23} (h : Kd.C k23 w (some ad) n l) (hn : n = l.length) (hp : 0 < l.length) :
    w.cell? (ad.add ((l.length - 1) * 2)) = some (.string (lastS l).f0) ∧ w.cell? ⟨(ad.add ((l.length - 1) * 2)).block, (ad.add ((l.length - 1) * 2)).off + 1, none⟩ = some (.int .i64 (lastS l).f1) := by
  subst hn
  have e : ((l.length : Int) - 1).toNat = l.length - 1 := by omega
  obtain ⟨ad', ha, h1, h2⟩ := at_T23 h ((l.length : Int) - 1) (by omega) (by omega)
  injection ha with ha
  subst ha
  rw [e, rd_last l hp] at h1 h2
  exact ⟨h1, h2⟩
theorem V_take {α : Type} {d : Kd α} {e m n c : Nat} {w : World} {base : Nat} {ok : Nat → Prop} {A : Option Addr} {xs : List α} (h : Kd.V d e w base ok (.slice A n c) xs) (hm : m ≤ xs.length) : Kd.V d e w base ok (.slice A (xs.take m).length c) (xs.take m) := by
  obtain ⟨h1, h2, h3⟩ := Kd.V_at h
  subst h1
  exact Kd.V_mk (by rw [List.length_take]; omega) (Kd.F_take h3 hm)

set_option maxHeartbeats 16000000 in
set_option maxRecDepth 100000 in
theorem rback_undo (w : World) (P : Nat → Prop) (s : St) (v : Value) (hv : EdV w P s v) (ok : OkS s) :
    Calls Try.prog 51 #[v, .bool false] w fun e w' => ∃ v', e = .returned v' ∧ EdV w' (fun k => P k ∨ w.heap.size ≤ k) (undoS s) v' ∧ Below w.heap.size w w' := by
  have hvo := hv.old
  obtain ⟨P0, hP0⟩ : ∃ Q : Nat → Prop, Q = fun k => P k ∧ k < w.heap.size := ⟨_, rfl⟩
  rw [← hP0] at hvo
  have hp1 : ∀ k, P0 k → P k ∧ k < w.heap.size := by intro k hk; rw [hP0] at hk; exact hk
  clear hP0
  obtain ⟨Ak, Au, Ar, ck, cu, cr, rfl, v1, v2, v3⟩ := hvo
  have hu27 := Try.underlying27
  have hu23 := Try.underlying23
  obtain ⟨w1, hw1⟩ : ∃ z, z = (w.alloc (.cells #[.string s.text, .int .i64 s.pos, .int .i64 s.mark, .slice Ak s.kills.length ck, .slice Au s.undo.length cu, .slice Ar s.redo.length cr, .string s.keys, .int .i64 s.last, .int .i64 s.line, .string s.saved] 27)).alloc (.cells #[.string ⟨#[]⟩, .int .i64 0, .int .i64 0, .slice none 0 0, .slice none 0 0, .slice none 0 0, .string ⟨#[]⟩, .int .i64 0, .int .i64 0, .string ⟨#[]⟩] 27) := ⟨_, rfl⟩
  obtain ⟨b1, b2, b3, b4⟩ := box2 w #[.string s.text, .int .i64 s.pos, .int .i64 s.mark, .slice Ak s.kills.length ck, .slice Au s.undo.length cu, .slice Ar s.redo.length cr, .string s.keys, .int .i64 s.last, .int .i64 s.line, .string s.saved] #[.string ⟨#[]⟩, .int .i64 0, .int .i64 0, .slice none 0 0, .slice none 0 0, .slice none 0 0, .string ⟨#[]⟩, .int .i64 0, .int .i64 0, .string ⟨#[]⟩] 27 27
  rw [← hw1] at b1 b2 b3 b4
  have HE := Aside0.mk b1
  have HR := Aside0.mk b2
  have HB1 := Aside0.mk b3
  have HSZ := Aside0.mk b4
  have HP1 := Aside0.mk hp1
  have HW1 := Aside0.mk hw1
  have HV := Aside0.mk (show EdV w1 P0 s (edV s (.slice Ak s.kills.length ck) (.slice Au s.undo.length cu) (.slice Ar s.redo.length cr)) from ⟨Ak, Au, Ar, ck, cu, cr, rfl, Kd.V_below v1 b3, Kd.V_below v2 b3, Kd.V_below v3 b3⟩)
  have K1 := Aside0.mk (Kd.V_below v1 b3)
  have K2 := Aside0.mk (Kd.V_below v2 b3)
  have K3 := Aside0.mk (Kd.V_below v3 b3)
  unfold edV at HV hv ⊢
  obtain ⟨d0, d1, d2, d3, d4, d5, d6, d7, d8, d9⟩ := Box.cells (s := s) b1
  clear hv v1 v2 v3 hw1 b1 b2 b3 b4 hp1
  clear d0 d1 d2 d3 d4 d5 d6 d7 d8 d9
  have HUL := Aside0.mk ok.redo
  have hul := ok.undo
  clear ok
  by_cases c1 : s.undo = []
  · have hz : undoS s = s := by unfold undoS; rw [if_pos c1]
    rw [hz]
    have hl0 : s.undo.length = 0 := by rw [c1]; rfl
    have g1 : ((s.undo.length : Int) == 0) = true := by rw [beq_iff_eq]; omega
    have g2 : (s.undo.length == 0) = true := by rw [beq_iff_eq]; omega
    clear hz c1 hl0 hul
    go_enter Try.func51, Try.ntmps51
    go_upto_region 1 with (fail)
    rw [← HW1.out]
    obtain ⟨d0, d1, d2, d3, d4, d5, d6, d7, d8, d9⟩ := Box.cells (s := s) HE.out
    go_region
    obtain ⟨W, hW⟩ : ∃ z, z = w1.drew := ⟨_, rfl⟩
    have hbl : Below w1.heap.size w1 W := by rw [hW]; exact (below_drew (Below.refl w1.heap.size w1))
    have HRX := Aside0.mk (blk_below HR.out hbl)
    have HWW := Aside0.mk hW
    have k1 := Aside0.mk (Kd.V_below K1.out hbl)
    have k2 := Aside0.mk (Kd.V_below K2.out hbl)
    have k3 := Aside0.mk (Kd.V_below K3.out hbl)
    have kb := Aside0.mk (below_step HB1.out hbl)
    have HEX := Aside0.mk (blk_below HE.out hbl)
    clear d0 d1 d2 d3 d4 d5 d6 d7 d8 d9 hbl hW
    go_upto_region 6 with (fail)
    rw [← HWW.out]
    obtain ⟨d0, d1, d2, d3, d4, d5, d6, d7, d8, d9⟩ := Box.cells (s := s) HEX.out
    have hqr := blk_frozen HRX.out
    obtain ⟨r0, r1, r2, r3, r4, r5, r6, r7, r8, r9⟩ := ten_cells HRX.out
    go_wp2_with (fail)
    obtain ⟨y1, y2, y3⟩ := put_edV (w := w) (W := W) (s := s) (rb := w.heap.size + 1) k1.out k2.out k3.out (fun k hk => by have := (HP1.out k hk).2; omega) HRX.out kb.out (by omega)
    refine bodyPost_ret (results_cell_row rfl _ _ (w.heap.size + 1) 27 _ (0, 0) _ rfl y1 hu27 rfl (by first | rfl | decide)) rfl ?_
    exact ⟨_, rfl, y2.mono (fun k hk => .inl (HP1.out k hk).1), y3⟩
  have hp : 0 < s.undo.length := List.length_pos_iff.mpr c1
  have g1 : ((s.undo.length : Int) == 0) = false := by rw [beq_eq_false_iff_ne]; omega
  have g2 : (s.undo.length == 0) = false := by rw [beq_eq_false_iff_ne]; omega
  have hz : undoS s = { (clampS { s with text := (lastS s.undo).f0, pos := (lastS s.undo).f1 }) with undo := s.undo.dropLast, redo := (pushS s.redo ⟨s.text, s.pos⟩) } := by unfold undoS backS; rw [if_neg c1]
  rw [hz, List.dropLast_eq_take]
  obtain ⟨T, hT⟩ : ∃ T, T = s.undo.take (s.undo.length - 1) := ⟨_, rfl⟩
  rw [← hT]
  have HT := Aside0.mk hT
  obtain ⟨i013, hi013, _, hsz13, _⟩ := info_parts info23
  have hcut := cut_to (P := Try.prog) 25 23 .i64 Try.underlying25 hi013 Au s.undo.length cu ((s.undo.length : Int) - 1) (by omega) (by omega) (Kd.V_reads' K2.out).2.1
  have hcutn : ((s.undo.length : Int) - 1).toNat = s.undo.length - 1 := by omega
  rw [hcutn] at hcut
  have htl : T.length = s.undo.length - 1 := by rw [hT, List.length_take]; omega
  rw [← htl] at hcut
  have LEN := Aside0.mk hp
  have b1 : IntKind.i64.wrap ((s.undo.length : Int) - 1) = (s.undo.length : Int) - 1 := by rw [IntKind.wrap_i64]; omega
  obtain ⟨PN, hPN⟩ : ∃ Q : Nat → Prop, Q = fun k => P0 k ∨ w1.heap.size ≤ k := ⟨_, rfl⟩
  have HPN := Aside0.mk (show ∀ k, PN k → k ≠ w.heap.size ∧ k ≠ w.heap.size + 1 from by intro k hk; rw [hPN] at hk; have h1 := HP1.out k; have h2 := HSZ.out; rcases hk with hk | hk; exact (by have := (h1 hk).2; omega); exact (by omega))
  have HPQ := Aside0.mk (show ∀ k, PN k → (P k ∨ w.heap.size ≤ k) from by intro k hk; rw [hPN] at hk; have h2 := HSZ.out; rcases hk with hk | hk; exact .inl (HP1.out k hk).1; exact .inr (by omega))
  have HNQ := Aside0.mk (show ∀ k, w1.heap.size ≤ k → PN k from by intro k hk; rw [hPN]; exact .inr hk)
  have HPO := Aside0.mk (show ∀ k, P0 k → PN k from by intro k hk; rw [hPN]; exact .inl hk)
  clear hcutn hsz13 hi013 hp c1 hz hul htl hPN hT
  rcases clamp_cases { s with text := (lastS s.undo).f0, pos := (lastS s.undo).f1 } with ⟨hm1, hm2⟩ | ⟨hm1, hm2⟩
  · rw [hm2]
    have hm1' : ((lastS s.undo).f0.size : Int) < s.mark := hm1
    have hm3 : decide (((lastS s.undo).f0.size : Int) < s.mark) = true := decide_eq_true hm1'
    clear hm1 hm2
    go_enter Try.func51, Try.ntmps51
    go_upto_region 1 with (fail)
    rw [← HW1.out]
    obtain ⟨d0, d1, d2, d3, d4, d5, d6, d7, d8, d9⟩ := Box.cells (s := s) HE.out
    go_region
    go_upto_region 7 with (fail)
    obtain ⟨W, hW⟩ : ∃ z, z = w1.drew := ⟨_, rfl⟩
    have hbl : Below w1.heap.size w1 W := by rw [hW]; exact (below_drew (Below.refl w1.heap.size w1))
    have HEX := Aside0.mk (blk_below HE.out hbl)
    have HWW := Aside0.mk hW
    clear d0 d1 d2 d3 d4 d5 d6 d7 d8 d9
    rw [← HWW.out]
    obtain ⟨d0, d1, d2, d3, d4, d5, d6, d7, d8, d9⟩ := Box.cells (s := s) HEX.out
    have HBW := Aside0.mk hbl
    have k0 := Aside0.mk (Kd.V_below K3.out hbl)
    clear hbl hW
    go_wp2_with (fail)
    refine (jobshellref46_push.calls Ar cr s.redo s.text s.pos (pushS s.redo ⟨s.text, s.pos⟩) W (Kd.V_reads' k0.out).2.2 (Kd.V_reads' k0.out).2.1 (rpush_f s.redo s.text s.pos HUL.out)).mono ?_
    rintro e w2 ⟨v0, rfl, q, hb⟩
    have hb2 := below_step HBW.out hb
    have HSW := Aside0.mk HBW.out.size
    have k4 := Aside0.mk (Kd.V_mono (Kd.Q_V (base' := 0) (Kd.Q_bound q)) (fun k hk => HNQ.out k (Nat.le_trans HSW.out hk.2.1)))
    obtain ⟨A0, c0, rfl⟩ := Kd.V_slice k4.out
    have HE' := Aside0.mk (blk_below HE.out hb2)
    have HR' := Aside0.mk (blk_below HR.out hb2)
    have k1 := Aside0.mk (Kd.V_mono (Kd.V_below K1.out hb2) (fun k hk => HPO.out k hk))
    have kf := Aside0.mk (Kd.V_mono (Kd.V_below K2.out hb2) (fun k hk => HPO.out k hk))
    have k2 := Aside0.mk (by have h := V_take kf.out (Nat.sub_le s.undo.length 1); rw [← HT.out] at h; exact h)
    have HB2 := Aside0.mk (below_step HB1.out hb2)
    rcases Au with _ | ad
    · exact absurd (Kd.V_reads' kf.out).2.2 (by intro hC; obtain ⟨ad, _, ha, _⟩ := Kd.C_get hC z23 0 (by omega) (by have := LEN.out; omega); cases ha)
    obtain ⟨l1, l2⟩ := rlast_snap (Kd.V_reads' kf.out).2.2 rfl LEN.out
    have hp0 := LEN.out
    have hp1 : 0 ≤ (s.undo.length : Int) - 1 := by omega
    have hp2 : (s.undo.length : Int) - 1 < (s.undo.length : Int) := by omega
    clear HE HR HEX d0 d1 d2 d3 d4 d5 d6 d7 d8 d9 q hb hb2
    have HE := HE'
    have HR := HR'
    clear HE' HR'
    have hqe := blk_frozen HE.out
    obtain ⟨d0, d1, d2, d3, d4, d5, d6, d7, d8, d9⟩ := Box.cells (s := s) HE.out
    have hqr := blk_frozen HR.out
    obtain ⟨r0, r1, r2, r3, r4, r5, r6, r7, r8, r9⟩ := ten_cells HR.out
    obtain ⟨wx, hwx⟩ : ∃ z, z = (((((w2.setCell ⟨w.heap.size, 0, none⟩ (.string (lastS s.undo).f0)).setCell ⟨w.heap.size, 1, none⟩ (.int .i64 (lastS s.undo).f1)).setCell ⟨w.heap.size, 4, none⟩ (.slice (some ad) T.length cu)).setCell ⟨w.heap.size, 5, none⟩ (.slice A0 (pushS s.redo ⟨s.text, s.pos⟩).length c0)).setCell ⟨w.heap.size, 2, none⟩ (.int .i64 ((lastS s.undo).f0.size : Int))) := ⟨_, rfl⟩
    have HEX := Aside0.mk (show wx.heap[w.heap.size]? = some (.cells #[.string (lastS s.undo).f0, .int .i64 (lastS s.undo).f1, .int .i64 ((lastS s.undo).f0.size : Int), .slice Ak s.kills.length ck, .slice (some ad) T.length cu, .slice A0 (pushS s.redo ⟨s.text, s.pos⟩).length c0, .string s.keys, .int .i64 s.last, .int .i64 s.line, .string s.saved] 27 (0, 0)) from by rw [hwx]; exact (blk_put (cs' := #[.string (lastS s.undo).f0, .int .i64 (lastS s.undo).f1, .int .i64 ((lastS s.undo).f0.size : Int), .slice Ak s.kills.length ck, .slice (some ad) T.length cu, .slice A0 (pushS s.redo ⟨s.text, s.pos⟩).length c0, .string s.keys, .int .i64 s.last, .int .i64 s.line, .string s.saved]) (blk_put (cs' := #[.string (lastS s.undo).f0, .int .i64 (lastS s.undo).f1, .int .i64 s.mark, .slice Ak s.kills.length ck, .slice (some ad) T.length cu, .slice A0 (pushS s.redo ⟨s.text, s.pos⟩).length c0, .string s.keys, .int .i64 s.last, .int .i64 s.line, .string s.saved]) (blk_put (cs' := #[.string (lastS s.undo).f0, .int .i64 (lastS s.undo).f1, .int .i64 s.mark, .slice Ak s.kills.length ck, .slice (some ad) T.length cu, .slice Ar s.redo.length cr, .string s.keys, .int .i64 s.last, .int .i64 s.line, .string s.saved]) (blk_put (cs' := #[.string (lastS s.undo).f0, .int .i64 (lastS s.undo).f1, .int .i64 s.mark, .slice Ak s.kills.length ck, .slice (some ad) s.undo.length cu, .slice Ar s.redo.length cr, .string s.keys, .int .i64 s.last, .int .i64 s.line, .string s.saved]) (blk_put (cs' := #[.string (lastS s.undo).f0, .int .i64 s.pos, .int .i64 s.mark, .slice Ak s.kills.length ck, .slice (some ad) s.undo.length cu, .slice Ar s.redo.length cr, .string s.keys, .int .i64 s.last, .int .i64 s.line, .string s.saved]) HE.out 0 (.string (lastS s.undo).f0) rfl) 1 (.int .i64 (lastS s.undo).f1) rfl) 4 (.slice (some ad) T.length cu) rfl) 5 (.slice A0 (pushS s.redo ⟨s.text, s.pos⟩).length c0) rfl) 2 (.int .i64 ((lastS s.undo).f0.size : Int)) rfl))
    have HRX := Aside0.mk (show wx.heap[w.heap.size + 1]? = some (.cells #[.string ⟨#[]⟩, .int .i64 0, .int .i64 0, .slice none 0 0, .slice none 0 0, .slice none 0 0, .string ⟨#[]⟩, .int .i64 0, .int .i64 0, .string ⟨#[]⟩] 27 (0, 0)) from by rw [hwx]; exact (blk_far (blk_far (blk_far (blk_far (blk_far HR.out (p := ⟨w.heap.size, 0, none⟩) (by simp) _) (p := ⟨w.heap.size, 1, none⟩) (by simp) _) (p := ⟨w.heap.size, 4, none⟩) (by simp) _) (p := ⟨w.heap.size, 5, none⟩) (by simp) _) (p := ⟨w.heap.size, 2, none⟩) (by simp) _))
    have HBX := Aside0.mk (show Below w.heap.size w wx from by rw [hwx]; exact (below_set (below_set (below_set (below_set (below_set HB2.out (Nat.le_refl _)) (Nat.le_refl _)) (Nat.le_refl _)) (Nat.le_refl _)) (Nat.le_refl _)))
    have X1 := Aside0.mk (show Kd.V Kd.string 9 wx 0 PN _ _ from by rw [hwx]; exact (Kd.V_far (Kd.V_far (Kd.V_far (Kd.V_far (Kd.V_far k1.out (p := ⟨w.heap.size, 0, none⟩) (fun k hk => by have := HPN.out k hk; simp; omega) _) (p := ⟨w.heap.size, 1, none⟩) (fun k hk => by have := HPN.out k hk; simp; omega) _) (p := ⟨w.heap.size, 4, none⟩) (fun k hk => by have := HPN.out k hk; simp; omega) _) (p := ⟨w.heap.size, 5, none⟩) (fun k hk => by have := HPN.out k hk; simp; omega) _) (p := ⟨w.heap.size, 2, none⟩) (fun k hk => by have := HPN.out k hk; simp; omega) _))
    have X2 := Aside0.mk (show Kd.V k23 23 wx 0 PN _ _ from by rw [hwx]; exact (Kd.V_far (Kd.V_far (Kd.V_far (Kd.V_far (Kd.V_far k2.out (p := ⟨w.heap.size, 0, none⟩) (fun k hk => by have := HPN.out k hk; simp; omega) _) (p := ⟨w.heap.size, 1, none⟩) (fun k hk => by have := HPN.out k hk; simp; omega) _) (p := ⟨w.heap.size, 4, none⟩) (fun k hk => by have := HPN.out k hk; simp; omega) _) (p := ⟨w.heap.size, 5, none⟩) (fun k hk => by have := HPN.out k hk; simp; omega) _) (p := ⟨w.heap.size, 2, none⟩) (fun k hk => by have := HPN.out k hk; simp; omega) _))
    have X3 := Aside0.mk (show Kd.V k23 23 wx 0 PN _ _ from by rw [hwx]; exact (Kd.V_far (Kd.V_far (Kd.V_far (Kd.V_far (Kd.V_far k4.out (p := ⟨w.heap.size, 0, none⟩) (fun k hk => by have := HPN.out k hk; simp; omega) _) (p := ⟨w.heap.size, 1, none⟩) (fun k hk => by have := HPN.out k hk; simp; omega) _) (p := ⟨w.heap.size, 4, none⟩) (fun k hk => by have := HPN.out k hk; simp; omega) _) (p := ⟨w.heap.size, 5, none⟩) (fun k hk => by have := HPN.out k hk; simp; omega) _) (p := ⟨w.heap.size, 2, none⟩) (fun k hk => by have := HPN.out k hk; simp; omega) _))
    have HWX := Aside0.mk hwx
    clear hwx
    go_upto_region 14 with (fail)
    rw [← HWX.out]
    clear l1 l2 hp0 hp1 hp2 hqe hqr d0 d1 d2 d3 d4 d5 d6 d7 d8 d9 r0 r1 r2 r3 r4 r5 r6 r7 r8 r9
    obtain ⟨d0, d1, d2, d3, d4, d5, d6, d7, d8, d9⟩ := ten_cells HEX.out
    have hqr := blk_frozen HRX.out
    obtain ⟨r0, r1, r2, r3, r4, r5, r6, r7, r8, r9⟩ := ten_cells HRX.out
    go_wp2_with (fail)
    obtain ⟨y1, y2, y3⟩ := put_edV (w := w) (W := wx) (s := { s with text := (lastS s.undo).f0, pos := (lastS s.undo).f1, mark := ((lastS s.undo).f0.size : Int), undo := T, redo := (pushS s.redo ⟨s.text, s.pos⟩) }) (rb := w.heap.size + 1) X1.out X2.out X3.out (fun k hk => by have := (HPN.out k hk); omega) HRX.out HBX.out (by omega)
    refine bodyPost_ret (results_cell_row rfl _ _ (w.heap.size + 1) 27 _ (0, 0) _ rfl y1 hu27 rfl (by first | rfl | decide)) rfl ?_
    exact ⟨_, rfl, y2.mono HPQ.out, y3⟩
  · rw [hm2]
    have hm1' : ¬ ((lastS s.undo).f0.size : Int) < s.mark := hm1
    have hm3 : decide (((lastS s.undo).f0.size : Int) < s.mark) = false := decide_eq_false hm1'
    clear hm1 hm2
    go_enter Try.func51, Try.ntmps51
    go_upto_region 1 with (fail)
    rw [← HW1.out]
    obtain ⟨d0, d1, d2, d3, d4, d5, d6, d7, d8, d9⟩ := Box.cells (s := s) HE.out
    go_region
    go_upto_region 7 with (fail)
    obtain ⟨W, hW⟩ : ∃ z, z = w1.drew := ⟨_, rfl⟩
    have hbl : Below w1.heap.size w1 W := by rw [hW]; exact (below_drew (Below.refl w1.heap.size w1))
    have HEX := Aside0.mk (blk_below HE.out hbl)
    have HWW := Aside0.mk hW
    clear d0 d1 d2 d3 d4 d5 d6 d7 d8 d9
    rw [← HWW.out]
    obtain ⟨d0, d1, d2, d3, d4, d5, d6, d7, d8, d9⟩ := Box.cells (s := s) HEX.out
    have HBW := Aside0.mk hbl
    have k0 := Aside0.mk (Kd.V_below K3.out hbl)
    clear hbl hW
    go_wp2_with (fail)
    refine (jobshellref46_push.calls Ar cr s.redo s.text s.pos (pushS s.redo ⟨s.text, s.pos⟩) W (Kd.V_reads' k0.out).2.2 (Kd.V_reads' k0.out).2.1 (rpush_f s.redo s.text s.pos HUL.out)).mono ?_
    rintro e w2 ⟨v0, rfl, q, hb⟩
    have hb2 := below_step HBW.out hb
    have HSW := Aside0.mk HBW.out.size
    have k4 := Aside0.mk (Kd.V_mono (Kd.Q_V (base' := 0) (Kd.Q_bound q)) (fun k hk => HNQ.out k (Nat.le_trans HSW.out hk.2.1)))
    obtain ⟨A0, c0, rfl⟩ := Kd.V_slice k4.out
    have HE' := Aside0.mk (blk_below HE.out hb2)
    have HR' := Aside0.mk (blk_below HR.out hb2)
    have k1 := Aside0.mk (Kd.V_mono (Kd.V_below K1.out hb2) (fun k hk => HPO.out k hk))
    have kf := Aside0.mk (Kd.V_mono (Kd.V_below K2.out hb2) (fun k hk => HPO.out k hk))
    have k2 := Aside0.mk (by have h := V_take kf.out (Nat.sub_le s.undo.length 1); rw [← HT.out] at h; exact h)
    have HB2 := Aside0.mk (below_step HB1.out hb2)
    rcases Au with _ | ad
    · exact absurd (Kd.V_reads' kf.out).2.2 (by intro hC; obtain ⟨ad, _, ha, _⟩ := Kd.C_get hC z23 0 (by omega) (by have := LEN.out; omega); cases ha)
    obtain ⟨l1, l2⟩ := rlast_snap (Kd.V_reads' kf.out).2.2 rfl LEN.out
    have hp0 := LEN.out
    have hp1 : 0 ≤ (s.undo.length : Int) - 1 := by omega
    have hp2 : (s.undo.length : Int) - 1 < (s.undo.length : Int) := by omega
    clear HE HR HEX d0 d1 d2 d3 d4 d5 d6 d7 d8 d9 q hb hb2
    have HE := HE'
    have HR := HR'
    clear HE' HR'
    have hqe := blk_frozen HE.out
    obtain ⟨d0, d1, d2, d3, d4, d5, d6, d7, d8, d9⟩ := Box.cells (s := s) HE.out
    have hqr := blk_frozen HR.out
    obtain ⟨r0, r1, r2, r3, r4, r5, r6, r7, r8, r9⟩ := ten_cells HR.out
    obtain ⟨wx, hwx⟩ : ∃ z, z = (((((w2.setCell ⟨w.heap.size, 0, none⟩ (.string (lastS s.undo).f0)).setCell ⟨w.heap.size, 1, none⟩ (.int .i64 (lastS s.undo).f1)).setCell ⟨w.heap.size, 4, none⟩ (.slice (some ad) T.length cu)).setCell ⟨w.heap.size, 5, none⟩ (.slice A0 (pushS s.redo ⟨s.text, s.pos⟩).length c0)).setCell ⟨w.heap.size, 2, none⟩ (.int .i64 s.mark)) := ⟨_, rfl⟩
    have HEX := Aside0.mk (show wx.heap[w.heap.size]? = some (.cells #[.string (lastS s.undo).f0, .int .i64 (lastS s.undo).f1, .int .i64 s.mark, .slice Ak s.kills.length ck, .slice (some ad) T.length cu, .slice A0 (pushS s.redo ⟨s.text, s.pos⟩).length c0, .string s.keys, .int .i64 s.last, .int .i64 s.line, .string s.saved] 27 (0, 0)) from by rw [hwx]; exact (blk_put (cs' := #[.string (lastS s.undo).f0, .int .i64 (lastS s.undo).f1, .int .i64 s.mark, .slice Ak s.kills.length ck, .slice (some ad) T.length cu, .slice A0 (pushS s.redo ⟨s.text, s.pos⟩).length c0, .string s.keys, .int .i64 s.last, .int .i64 s.line, .string s.saved]) (blk_put (cs' := #[.string (lastS s.undo).f0, .int .i64 (lastS s.undo).f1, .int .i64 s.mark, .slice Ak s.kills.length ck, .slice (some ad) T.length cu, .slice A0 (pushS s.redo ⟨s.text, s.pos⟩).length c0, .string s.keys, .int .i64 s.last, .int .i64 s.line, .string s.saved]) (blk_put (cs' := #[.string (lastS s.undo).f0, .int .i64 (lastS s.undo).f1, .int .i64 s.mark, .slice Ak s.kills.length ck, .slice (some ad) T.length cu, .slice Ar s.redo.length cr, .string s.keys, .int .i64 s.last, .int .i64 s.line, .string s.saved]) (blk_put (cs' := #[.string (lastS s.undo).f0, .int .i64 (lastS s.undo).f1, .int .i64 s.mark, .slice Ak s.kills.length ck, .slice (some ad) s.undo.length cu, .slice Ar s.redo.length cr, .string s.keys, .int .i64 s.last, .int .i64 s.line, .string s.saved]) (blk_put (cs' := #[.string (lastS s.undo).f0, .int .i64 s.pos, .int .i64 s.mark, .slice Ak s.kills.length ck, .slice (some ad) s.undo.length cu, .slice Ar s.redo.length cr, .string s.keys, .int .i64 s.last, .int .i64 s.line, .string s.saved]) HE.out 0 (.string (lastS s.undo).f0) rfl) 1 (.int .i64 (lastS s.undo).f1) rfl) 4 (.slice (some ad) T.length cu) rfl) 5 (.slice A0 (pushS s.redo ⟨s.text, s.pos⟩).length c0) rfl) 2 (.int .i64 s.mark) rfl))
    have HRX := Aside0.mk (show wx.heap[w.heap.size + 1]? = some (.cells #[.string ⟨#[]⟩, .int .i64 0, .int .i64 0, .slice none 0 0, .slice none 0 0, .slice none 0 0, .string ⟨#[]⟩, .int .i64 0, .int .i64 0, .string ⟨#[]⟩] 27 (0, 0)) from by rw [hwx]; exact (blk_far (blk_far (blk_far (blk_far (blk_far HR.out (p := ⟨w.heap.size, 0, none⟩) (by simp) _) (p := ⟨w.heap.size, 1, none⟩) (by simp) _) (p := ⟨w.heap.size, 4, none⟩) (by simp) _) (p := ⟨w.heap.size, 5, none⟩) (by simp) _) (p := ⟨w.heap.size, 2, none⟩) (by simp) _))
    have HBX := Aside0.mk (show Below w.heap.size w wx from by rw [hwx]; exact (below_set (below_set (below_set (below_set (below_set HB2.out (Nat.le_refl _)) (Nat.le_refl _)) (Nat.le_refl _)) (Nat.le_refl _)) (Nat.le_refl _)))
    have X1 := Aside0.mk (show Kd.V Kd.string 9 wx 0 PN _ _ from by rw [hwx]; exact (Kd.V_far (Kd.V_far (Kd.V_far (Kd.V_far (Kd.V_far k1.out (p := ⟨w.heap.size, 0, none⟩) (fun k hk => by have := HPN.out k hk; simp; omega) _) (p := ⟨w.heap.size, 1, none⟩) (fun k hk => by have := HPN.out k hk; simp; omega) _) (p := ⟨w.heap.size, 4, none⟩) (fun k hk => by have := HPN.out k hk; simp; omega) _) (p := ⟨w.heap.size, 5, none⟩) (fun k hk => by have := HPN.out k hk; simp; omega) _) (p := ⟨w.heap.size, 2, none⟩) (fun k hk => by have := HPN.out k hk; simp; omega) _))
    have X2 := Aside0.mk (show Kd.V k23 23 wx 0 PN _ _ from by rw [hwx]; exact (Kd.V_far (Kd.V_far (Kd.V_far (Kd.V_far (Kd.V_far k2.out (p := ⟨w.heap.size, 0, none⟩) (fun k hk => by have := HPN.out k hk; simp; omega) _) (p := ⟨w.heap.size, 1, none⟩) (fun k hk => by have := HPN.out k hk; simp; omega) _) (p := ⟨w.heap.size, 4, none⟩) (fun k hk => by have := HPN.out k hk; simp; omega) _) (p := ⟨w.heap.size, 5, none⟩) (fun k hk => by have := HPN.out k hk; simp; omega) _) (p := ⟨w.heap.size, 2, none⟩) (fun k hk => by have := HPN.out k hk; simp; omega) _))
    have X3 := Aside0.mk (show Kd.V k23 23 wx 0 PN _ _ from by rw [hwx]; exact (Kd.V_far (Kd.V_far (Kd.V_far (Kd.V_far (Kd.V_far k4.out (p := ⟨w.heap.size, 0, none⟩) (fun k hk => by have := HPN.out k hk; simp; omega) _) (p := ⟨w.heap.size, 1, none⟩) (fun k hk => by have := HPN.out k hk; simp; omega) _) (p := ⟨w.heap.size, 4, none⟩) (fun k hk => by have := HPN.out k hk; simp; omega) _) (p := ⟨w.heap.size, 5, none⟩) (fun k hk => by have := HPN.out k hk; simp; omega) _) (p := ⟨w.heap.size, 2, none⟩) (fun k hk => by have := HPN.out k hk; simp; omega) _))
    have HWX := Aside0.mk hwx
    clear hwx
    go_upto_region 14 with (fail)
    rw [← HWX.out]
    clear l1 l2 hp0 hp1 hp2 hqe hqr d0 d1 d2 d3 d4 d5 d6 d7 d8 d9 r0 r1 r2 r3 r4 r5 r6 r7 r8 r9
    obtain ⟨d0, d1, d2, d3, d4, d5, d6, d7, d8, d9⟩ := ten_cells HEX.out
    have hqr := blk_frozen HRX.out
    obtain ⟨r0, r1, r2, r3, r4, r5, r6, r7, r8, r9⟩ := ten_cells HRX.out
    go_wp2_with (fail)
    obtain ⟨y1, y2, y3⟩ := put_edV (w := w) (W := wx) (s := { s with text := (lastS s.undo).f0, pos := (lastS s.undo).f1, mark := s.mark, undo := T, redo := (pushS s.redo ⟨s.text, s.pos⟩) }) (rb := w.heap.size + 1) X1.out X2.out X3.out (fun k hk => by have := (HPN.out k hk); omega) HRX.out HBX.out (by omega)
    refine bodyPost_ret (results_cell_row rfl _ _ (w.heap.size + 1) 27 _ (0, 0) _ rfl y1 hu27 rfl (by first | rfl | decide)) rfl ?_
    exact ⟨_, rfl, y2.mono HPQ.out, y3⟩

set_option maxHeartbeats 16000000 in
set_option maxRecDepth 100000 in
theorem rback_redo (w : World) (P : Nat → Prop) (s : St) (v : Value) (hv : EdV w P s v) (ok : OkS s) :
    Calls Try.prog 51 #[v, .bool true] w fun e w' => ∃ v', e = .returned v' ∧ EdV w' (fun k => P k ∨ w.heap.size ≤ k) (redoS s) v' ∧ Below w.heap.size w w' := by
  have hvo := hv.old
  obtain ⟨P0, hP0⟩ : ∃ Q : Nat → Prop, Q = fun k => P k ∧ k < w.heap.size := ⟨_, rfl⟩
  rw [← hP0] at hvo
  have hp1 : ∀ k, P0 k → P k ∧ k < w.heap.size := by intro k hk; rw [hP0] at hk; exact hk
  clear hP0
  obtain ⟨Ak, Au, Ar, ck, cu, cr, rfl, v1, v2, v3⟩ := hvo
  have hu27 := Try.underlying27
  have hu23 := Try.underlying23
  obtain ⟨w1, hw1⟩ : ∃ z, z = (w.alloc (.cells #[.string s.text, .int .i64 s.pos, .int .i64 s.mark, .slice Ak s.kills.length ck, .slice Au s.undo.length cu, .slice Ar s.redo.length cr, .string s.keys, .int .i64 s.last, .int .i64 s.line, .string s.saved] 27)).alloc (.cells #[.string ⟨#[]⟩, .int .i64 0, .int .i64 0, .slice none 0 0, .slice none 0 0, .slice none 0 0, .string ⟨#[]⟩, .int .i64 0, .int .i64 0, .string ⟨#[]⟩] 27) := ⟨_, rfl⟩
  obtain ⟨b1, b2, b3, b4⟩ := box2 w #[.string s.text, .int .i64 s.pos, .int .i64 s.mark, .slice Ak s.kills.length ck, .slice Au s.undo.length cu, .slice Ar s.redo.length cr, .string s.keys, .int .i64 s.last, .int .i64 s.line, .string s.saved] #[.string ⟨#[]⟩, .int .i64 0, .int .i64 0, .slice none 0 0, .slice none 0 0, .slice none 0 0, .string ⟨#[]⟩, .int .i64 0, .int .i64 0, .string ⟨#[]⟩] 27 27
  rw [← hw1] at b1 b2 b3 b4
  have HE := Aside0.mk b1
  have HR := Aside0.mk b2
  have HB1 := Aside0.mk b3
  have HSZ := Aside0.mk b4
  have HP1 := Aside0.mk hp1
  have HW1 := Aside0.mk hw1
  have HV := Aside0.mk (show EdV w1 P0 s (edV s (.slice Ak s.kills.length ck) (.slice Au s.undo.length cu) (.slice Ar s.redo.length cr)) from ⟨Ak, Au, Ar, ck, cu, cr, rfl, Kd.V_below v1 b3, Kd.V_below v2 b3, Kd.V_below v3 b3⟩)
  have K1 := Aside0.mk (Kd.V_below v1 b3)
  have K2 := Aside0.mk (Kd.V_below v2 b3)
  have K3 := Aside0.mk (Kd.V_below v3 b3)
  unfold edV at HV hv ⊢
  obtain ⟨d0, d1, d2, d3, d4, d5, d6, d7, d8, d9⟩ := Box.cells (s := s) b1
  clear hv v1 v2 v3 hw1 b1 b2 b3 b4 hp1
  clear d0 d1 d2 d3 d4 d5 d6 d7 d8 d9
  have HUL := Aside0.mk ok.undo
  have hul := ok.redo
  clear ok
  by_cases c1 : s.redo = []
  · have hz : redoS s = s := by unfold redoS; rw [if_pos c1]
    rw [hz]
    have hl0 : s.redo.length = 0 := by rw [c1]; rfl
    have g1 : ((s.redo.length : Int) == 0) = true := by rw [beq_iff_eq]; omega
    have g2 : (s.redo.length == 0) = true := by rw [beq_iff_eq]; omega
    clear hz c1 hl0 hul
    go_enter Try.func51, Try.ntmps51
    go_upto_region 1 with (fail)
    rw [← HW1.out]
    obtain ⟨d0, d1, d2, d3, d4, d5, d6, d7, d8, d9⟩ := Box.cells (s := s) HE.out
    go_region
    go_upto_region 3 with (fail)
    go_region
    obtain ⟨W, hW⟩ : ∃ z, z = w1.drew.drew := ⟨_, rfl⟩
    have hbl : Below w1.heap.size w1 W := by rw [hW]; exact (below_drew (below_drew (Below.refl w1.heap.size w1)))
    have HRX := Aside0.mk (blk_below HR.out hbl)
    have HWW := Aside0.mk hW
    have k1 := Aside0.mk (Kd.V_below K1.out hbl)
    have k2 := Aside0.mk (Kd.V_below K2.out hbl)
    have k3 := Aside0.mk (Kd.V_below K3.out hbl)
    have kb := Aside0.mk (below_step HB1.out hbl)
    have HEX := Aside0.mk (blk_below HE.out hbl)
    clear d0 d1 d2 d3 d4 d5 d6 d7 d8 d9 hbl hW
    go_upto_region 6 with (fail)
    rw [← HWW.out]
    obtain ⟨d0, d1, d2, d3, d4, d5, d6, d7, d8, d9⟩ := Box.cells (s := s) HEX.out
    have hqr := blk_frozen HRX.out
    obtain ⟨r0, r1, r2, r3, r4, r5, r6, r7, r8, r9⟩ := ten_cells HRX.out
    go_wp2_with (fail)
    obtain ⟨y1, y2, y3⟩ := put_edV (w := w) (W := W) (s := s) (rb := w.heap.size + 1) k1.out k2.out k3.out (fun k hk => by have := (HP1.out k hk).2; omega) HRX.out kb.out (by omega)
    refine bodyPost_ret (results_cell_row rfl _ _ (w.heap.size + 1) 27 _ (0, 0) _ rfl y1 hu27 rfl (by first | rfl | decide)) rfl ?_
    exact ⟨_, rfl, y2.mono (fun k hk => .inl (HP1.out k hk).1), y3⟩
  have hp : 0 < s.redo.length := List.length_pos_iff.mpr c1
  have g1 : ((s.redo.length : Int) == 0) = false := by rw [beq_eq_false_iff_ne]; omega
  have g2 : (s.redo.length == 0) = false := by rw [beq_eq_false_iff_ne]; omega
  have hz : redoS s = { (clampS { s with text := (lastS s.redo).f0, pos := (lastS s.redo).f1 }) with redo := s.redo.dropLast, undo := (pushS s.undo ⟨s.text, s.pos⟩) } := by unfold redoS backS; rw [if_neg c1]
  rw [hz, List.dropLast_eq_take]
  obtain ⟨T, hT⟩ : ∃ T, T = s.redo.take (s.redo.length - 1) := ⟨_, rfl⟩
  rw [← hT]
  have HT := Aside0.mk hT
  obtain ⟨i013, hi013, _, hsz13, _⟩ := info_parts info23
  have hcut := cut_to (P := Try.prog) 25 23 .i64 Try.underlying25 hi013 Ar s.redo.length cr ((s.redo.length : Int) - 1) (by omega) (by omega) (Kd.V_reads' K3.out).2.1
  have hcutn : ((s.redo.length : Int) - 1).toNat = s.redo.length - 1 := by omega
  rw [hcutn] at hcut
  have htl : T.length = s.redo.length - 1 := by rw [hT, List.length_take]; omega
  rw [← htl] at hcut
  have LEN := Aside0.mk hp
  have b1 : IntKind.i64.wrap ((s.redo.length : Int) - 1) = (s.redo.length : Int) - 1 := by rw [IntKind.wrap_i64]; omega
  obtain ⟨PN, hPN⟩ : ∃ Q : Nat → Prop, Q = fun k => P0 k ∨ w1.heap.size ≤ k := ⟨_, rfl⟩
  have HPN := Aside0.mk (show ∀ k, PN k → k ≠ w.heap.size ∧ k ≠ w.heap.size + 1 from by intro k hk; rw [hPN] at hk; have h1 := HP1.out k; have h2 := HSZ.out; rcases hk with hk | hk; exact (by have := (h1 hk).2; omega); exact (by omega))
  have HPQ := Aside0.mk (show ∀ k, PN k → (P k ∨ w.heap.size ≤ k) from by intro k hk; rw [hPN] at hk; have h2 := HSZ.out; rcases hk with hk | hk; exact .inl (HP1.out k hk).1; exact .inr (by omega))
  have HNQ := Aside0.mk (show ∀ k, w1.heap.size ≤ k → PN k from by intro k hk; rw [hPN]; exact .inr hk)
  have HPO := Aside0.mk (show ∀ k, P0 k → PN k from by intro k hk; rw [hPN]; exact .inl hk)
  clear hcutn hsz13 hi013 hp c1 hz hul htl hPN hT
  rcases clamp_cases { s with text := (lastS s.redo).f0, pos := (lastS s.redo).f1 } with ⟨hm1, hm2⟩ | ⟨hm1, hm2⟩
  · rw [hm2]
    have hm1' : ((lastS s.redo).f0.size : Int) < s.mark := hm1
    have hm3 : decide (((lastS s.redo).f0.size : Int) < s.mark) = true := decide_eq_true hm1'
    clear hm1 hm2
    go_enter Try.func51, Try.ntmps51
    go_upto_region 1 with (fail)
    rw [← HW1.out]
    obtain ⟨d0, d1, d2, d3, d4, d5, d6, d7, d8, d9⟩ := Box.cells (s := s) HE.out
    go_region
    go_upto_region 3 with (fail)
    go_region
    go_upto_region 7 with (fail)
    obtain ⟨W, hW⟩ : ∃ z, z = w1.drew.drew := ⟨_, rfl⟩
    have hbl : Below w1.heap.size w1 W := by rw [hW]; exact (below_drew (below_drew (Below.refl w1.heap.size w1)))
    have HEX := Aside0.mk (blk_below HE.out hbl)
    have HWW := Aside0.mk hW
    clear d0 d1 d2 d3 d4 d5 d6 d7 d8 d9
    rw [← HWW.out]
    obtain ⟨d0, d1, d2, d3, d4, d5, d6, d7, d8, d9⟩ := Box.cells (s := s) HEX.out
    have HBW := Aside0.mk hbl
    have k0 := Aside0.mk (Kd.V_below K2.out hbl)
    clear hbl hW
    go_wp2_with (fail)
    refine (jobshellref46_push.calls Au cu s.undo s.text s.pos (pushS s.undo ⟨s.text, s.pos⟩) W (Kd.V_reads' k0.out).2.2 (Kd.V_reads' k0.out).2.1 (rpush_f s.undo s.text s.pos HUL.out)).mono ?_
    rintro e w2 ⟨v0, rfl, q, hb⟩
    have hb2 := below_step HBW.out hb
    have HSW := Aside0.mk HBW.out.size
    have k4 := Aside0.mk (Kd.V_mono (Kd.Q_V (base' := 0) (Kd.Q_bound q)) (fun k hk => HNQ.out k (Nat.le_trans HSW.out hk.2.1)))
    obtain ⟨A0, c0, rfl⟩ := Kd.V_slice k4.out
    have HE' := Aside0.mk (blk_below HE.out hb2)
    have HR' := Aside0.mk (blk_below HR.out hb2)
    have k1 := Aside0.mk (Kd.V_mono (Kd.V_below K1.out hb2) (fun k hk => HPO.out k hk))
    have kf := Aside0.mk (Kd.V_mono (Kd.V_below K3.out hb2) (fun k hk => HPO.out k hk))
    have k2 := Aside0.mk (by have h := V_take kf.out (Nat.sub_le s.redo.length 1); rw [← HT.out] at h; exact h)
    have HB2 := Aside0.mk (below_step HB1.out hb2)
    rcases Ar with _ | ad
    · exact absurd (Kd.V_reads' kf.out).2.2 (by intro hC; obtain ⟨ad, _, ha, _⟩ := Kd.C_get hC z23 0 (by omega) (by have := LEN.out; omega); cases ha)
    obtain ⟨l1, l2⟩ := rlast_snap (Kd.V_reads' kf.out).2.2 rfl LEN.out
    have hp0 := LEN.out
    have hp1 : 0 ≤ (s.redo.length : Int) - 1 := by omega
    have hp2 : (s.redo.length : Int) - 1 < (s.redo.length : Int) := by omega
    clear HE HR HEX d0 d1 d2 d3 d4 d5 d6 d7 d8 d9 q hb hb2
    have HE := HE'
    have HR := HR'
    clear HE' HR'
    have hqe := blk_frozen HE.out
    obtain ⟨d0, d1, d2, d3, d4, d5, d6, d7, d8, d9⟩ := Box.cells (s := s) HE.out
    have hqr := blk_frozen HR.out
    obtain ⟨r0, r1, r2, r3, r4, r5, r6, r7, r8, r9⟩ := ten_cells HR.out
    obtain ⟨wx, hwx⟩ : ∃ z, z = (((((((w2.setCell ⟨w.heap.size, 0, none⟩ (.string (lastS s.redo).f0)).setCell ⟨w.heap.size, 1, none⟩ (.int .i64 (lastS s.redo).f1)).setCell ⟨w.heap.size, 4, none⟩ (.slice (some ad) T.length cr)).setCell ⟨w.heap.size, 5, none⟩ (.slice A0 (pushS s.undo ⟨s.text, s.pos⟩).length c0)).setCell ⟨w.heap.size, 4, none⟩ (.slice A0 (pushS s.undo ⟨s.text, s.pos⟩).length c0)).setCell ⟨w.heap.size, 5, none⟩ (.slice (some ad) T.length cr)).setCell ⟨w.heap.size, 2, none⟩ (.int .i64 ((lastS s.redo).f0.size : Int))) := ⟨_, rfl⟩
    have HEX := Aside0.mk (show wx.heap[w.heap.size]? = some (.cells #[.string (lastS s.redo).f0, .int .i64 (lastS s.redo).f1, .int .i64 ((lastS s.redo).f0.size : Int), .slice Ak s.kills.length ck, .slice A0 (pushS s.undo ⟨s.text, s.pos⟩).length c0, .slice (some ad) T.length cr, .string s.keys, .int .i64 s.last, .int .i64 s.line, .string s.saved] 27 (0, 0)) from by rw [hwx]; exact (blk_put (cs' := #[.string (lastS s.redo).f0, .int .i64 (lastS s.redo).f1, .int .i64 ((lastS s.redo).f0.size : Int), .slice Ak s.kills.length ck, .slice A0 (pushS s.undo ⟨s.text, s.pos⟩).length c0, .slice (some ad) T.length cr, .string s.keys, .int .i64 s.last, .int .i64 s.line, .string s.saved]) (blk_put (cs' := #[.string (lastS s.redo).f0, .int .i64 (lastS s.redo).f1, .int .i64 s.mark, .slice Ak s.kills.length ck, .slice A0 (pushS s.undo ⟨s.text, s.pos⟩).length c0, .slice (some ad) T.length cr, .string s.keys, .int .i64 s.last, .int .i64 s.line, .string s.saved]) (blk_put (cs' := #[.string (lastS s.redo).f0, .int .i64 (lastS s.redo).f1, .int .i64 s.mark, .slice Ak s.kills.length ck, .slice A0 (pushS s.undo ⟨s.text, s.pos⟩).length c0, .slice A0 (pushS s.undo ⟨s.text, s.pos⟩).length c0, .string s.keys, .int .i64 s.last, .int .i64 s.line, .string s.saved]) (blk_put (cs' := #[.string (lastS s.redo).f0, .int .i64 (lastS s.redo).f1, .int .i64 s.mark, .slice Ak s.kills.length ck, .slice (some ad) T.length cr, .slice A0 (pushS s.undo ⟨s.text, s.pos⟩).length c0, .string s.keys, .int .i64 s.last, .int .i64 s.line, .string s.saved]) (blk_put (cs' := #[.string (lastS s.redo).f0, .int .i64 (lastS s.redo).f1, .int .i64 s.mark, .slice Ak s.kills.length ck, .slice (some ad) T.length cr, .slice (some ad) s.redo.length cr, .string s.keys, .int .i64 s.last, .int .i64 s.line, .string s.saved]) (blk_put (cs' := #[.string (lastS s.redo).f0, .int .i64 (lastS s.redo).f1, .int .i64 s.mark, .slice Ak s.kills.length ck, .slice Au s.undo.length cu, .slice (some ad) s.redo.length cr, .string s.keys, .int .i64 s.last, .int .i64 s.line, .string s.saved]) (blk_put (cs' := #[.string (lastS s.redo).f0, .int .i64 s.pos, .int .i64 s.mark, .slice Ak s.kills.length ck, .slice Au s.undo.length cu, .slice (some ad) s.redo.length cr, .string s.keys, .int .i64 s.last, .int .i64 s.line, .string s.saved]) HE.out 0 (.string (lastS s.redo).f0) rfl) 1 (.int .i64 (lastS s.redo).f1) rfl) 4 (.slice (some ad) T.length cr) rfl) 5 (.slice A0 (pushS s.undo ⟨s.text, s.pos⟩).length c0) rfl) 4 (.slice A0 (pushS s.undo ⟨s.text, s.pos⟩).length c0) rfl) 5 (.slice (some ad) T.length cr) rfl) 2 (.int .i64 ((lastS s.redo).f0.size : Int)) rfl))
    have HRX := Aside0.mk (show wx.heap[w.heap.size + 1]? = some (.cells #[.string ⟨#[]⟩, .int .i64 0, .int .i64 0, .slice none 0 0, .slice none 0 0, .slice none 0 0, .string ⟨#[]⟩, .int .i64 0, .int .i64 0, .string ⟨#[]⟩] 27 (0, 0)) from by rw [hwx]; exact (blk_far (blk_far (blk_far (blk_far (blk_far (blk_far (blk_far HR.out (p := ⟨w.heap.size, 0, none⟩) (by simp) _) (p := ⟨w.heap.size, 1, none⟩) (by simp) _) (p := ⟨w.heap.size, 4, none⟩) (by simp) _) (p := ⟨w.heap.size, 5, none⟩) (by simp) _) (p := ⟨w.heap.size, 4, none⟩) (by simp) _) (p := ⟨w.heap.size, 5, none⟩) (by simp) _) (p := ⟨w.heap.size, 2, none⟩) (by simp) _))
    have HBX := Aside0.mk (show Below w.heap.size w wx from by rw [hwx]; exact (below_set (below_set (below_set (below_set (below_set (below_set (below_set HB2.out (Nat.le_refl _)) (Nat.le_refl _)) (Nat.le_refl _)) (Nat.le_refl _)) (Nat.le_refl _)) (Nat.le_refl _)) (Nat.le_refl _)))
    have X1 := Aside0.mk (show Kd.V Kd.string 9 wx 0 PN _ _ from by rw [hwx]; exact (Kd.V_far (Kd.V_far (Kd.V_far (Kd.V_far (Kd.V_far (Kd.V_far (Kd.V_far k1.out (p := ⟨w.heap.size, 0, none⟩) (fun k hk => by have := HPN.out k hk; simp; omega) _) (p := ⟨w.heap.size, 1, none⟩) (fun k hk => by have := HPN.out k hk; simp; omega) _) (p := ⟨w.heap.size, 4, none⟩) (fun k hk => by have := HPN.out k hk; simp; omega) _) (p := ⟨w.heap.size, 5, none⟩) (fun k hk => by have := HPN.out k hk; simp; omega) _) (p := ⟨w.heap.size, 4, none⟩) (fun k hk => by have := HPN.out k hk; simp; omega) _) (p := ⟨w.heap.size, 5, none⟩) (fun k hk => by have := HPN.out k hk; simp; omega) _) (p := ⟨w.heap.size, 2, none⟩) (fun k hk => by have := HPN.out k hk; simp; omega) _))
    have X2 := Aside0.mk (show Kd.V k23 23 wx 0 PN _ _ from by rw [hwx]; exact (Kd.V_far (Kd.V_far (Kd.V_far (Kd.V_far (Kd.V_far (Kd.V_far (Kd.V_far k4.out (p := ⟨w.heap.size, 0, none⟩) (fun k hk => by have := HPN.out k hk; simp; omega) _) (p := ⟨w.heap.size, 1, none⟩) (fun k hk => by have := HPN.out k hk; simp; omega) _) (p := ⟨w.heap.size, 4, none⟩) (fun k hk => by have := HPN.out k hk; simp; omega) _) (p := ⟨w.heap.size, 5, none⟩) (fun k hk => by have := HPN.out k hk; simp; omega) _) (p := ⟨w.heap.size, 4, none⟩) (fun k hk => by have := HPN.out k hk; simp; omega) _) (p := ⟨w.heap.size, 5, none⟩) (fun k hk => by have := HPN.out k hk; simp; omega) _) (p := ⟨w.heap.size, 2, none⟩) (fun k hk => by have := HPN.out k hk; simp; omega) _))
    have X3 := Aside0.mk (show Kd.V k23 23 wx 0 PN _ _ from by rw [hwx]; exact (Kd.V_far (Kd.V_far (Kd.V_far (Kd.V_far (Kd.V_far (Kd.V_far (Kd.V_far k2.out (p := ⟨w.heap.size, 0, none⟩) (fun k hk => by have := HPN.out k hk; simp; omega) _) (p := ⟨w.heap.size, 1, none⟩) (fun k hk => by have := HPN.out k hk; simp; omega) _) (p := ⟨w.heap.size, 4, none⟩) (fun k hk => by have := HPN.out k hk; simp; omega) _) (p := ⟨w.heap.size, 5, none⟩) (fun k hk => by have := HPN.out k hk; simp; omega) _) (p := ⟨w.heap.size, 4, none⟩) (fun k hk => by have := HPN.out k hk; simp; omega) _) (p := ⟨w.heap.size, 5, none⟩) (fun k hk => by have := HPN.out k hk; simp; omega) _) (p := ⟨w.heap.size, 2, none⟩) (fun k hk => by have := HPN.out k hk; simp; omega) _))
    have HWX := Aside0.mk hwx
    clear hwx
    go_upto_region 14 with (fail)
    rw [← HWX.out]
    clear l1 l2 hp0 hp1 hp2 hqe hqr d0 d1 d2 d3 d4 d5 d6 d7 d8 d9 r0 r1 r2 r3 r4 r5 r6 r7 r8 r9
    obtain ⟨d0, d1, d2, d3, d4, d5, d6, d7, d8, d9⟩ := ten_cells HEX.out
    have hqr := blk_frozen HRX.out
    obtain ⟨r0, r1, r2, r3, r4, r5, r6, r7, r8, r9⟩ := ten_cells HRX.out
    go_wp2_with (fail)
    obtain ⟨y1, y2, y3⟩ := put_edV (w := w) (W := wx) (s := { s with text := (lastS s.redo).f0, pos := (lastS s.redo).f1, mark := ((lastS s.redo).f0.size : Int), redo := T, undo := (pushS s.undo ⟨s.text, s.pos⟩) }) (rb := w.heap.size + 1) X1.out X2.out X3.out (fun k hk => by have := (HPN.out k hk); omega) HRX.out HBX.out (by omega)
    refine bodyPost_ret (results_cell_row rfl _ _ (w.heap.size + 1) 27 _ (0, 0) _ rfl y1 hu27 rfl (by first | rfl | decide)) rfl ?_
    exact ⟨_, rfl, y2.mono HPQ.out, y3⟩
  · rw [hm2]
    have hm1' : ¬ ((lastS s.redo).f0.size : Int) < s.mark := hm1
    have hm3 : decide (((lastS s.redo).f0.size : Int) < s.mark) = false := decide_eq_false hm1'
    clear hm1 hm2
    go_enter Try.func51, Try.ntmps51
    go_upto_region 1 with (fail)
    rw [← HW1.out]
    obtain ⟨d0, d1, d2, d3, d4, d5, d6, d7, d8, d9⟩ := Box.cells (s := s) HE.out
    go_region
    go_upto_region 3 with (fail)
    go_region
    go_upto_region 7 with (fail)
    obtain ⟨W, hW⟩ : ∃ z, z = w1.drew.drew := ⟨_, rfl⟩
    have hbl : Below w1.heap.size w1 W := by rw [hW]; exact (below_drew (below_drew (Below.refl w1.heap.size w1)))
    have HEX := Aside0.mk (blk_below HE.out hbl)
    have HWW := Aside0.mk hW
    clear d0 d1 d2 d3 d4 d5 d6 d7 d8 d9
    rw [← HWW.out]
    obtain ⟨d0, d1, d2, d3, d4, d5, d6, d7, d8, d9⟩ := Box.cells (s := s) HEX.out
    have HBW := Aside0.mk hbl
    have k0 := Aside0.mk (Kd.V_below K2.out hbl)
    clear hbl hW
    go_wp2_with (fail)
    refine (jobshellref46_push.calls Au cu s.undo s.text s.pos (pushS s.undo ⟨s.text, s.pos⟩) W (Kd.V_reads' k0.out).2.2 (Kd.V_reads' k0.out).2.1 (rpush_f s.undo s.text s.pos HUL.out)).mono ?_
    rintro e w2 ⟨v0, rfl, q, hb⟩
    have hb2 := below_step HBW.out hb
    have HSW := Aside0.mk HBW.out.size
    have k4 := Aside0.mk (Kd.V_mono (Kd.Q_V (base' := 0) (Kd.Q_bound q)) (fun k hk => HNQ.out k (Nat.le_trans HSW.out hk.2.1)))
    obtain ⟨A0, c0, rfl⟩ := Kd.V_slice k4.out
    have HE' := Aside0.mk (blk_below HE.out hb2)
    have HR' := Aside0.mk (blk_below HR.out hb2)
    have k1 := Aside0.mk (Kd.V_mono (Kd.V_below K1.out hb2) (fun k hk => HPO.out k hk))
    have kf := Aside0.mk (Kd.V_mono (Kd.V_below K3.out hb2) (fun k hk => HPO.out k hk))
    have k2 := Aside0.mk (by have h := V_take kf.out (Nat.sub_le s.redo.length 1); rw [← HT.out] at h; exact h)
    have HB2 := Aside0.mk (below_step HB1.out hb2)
    rcases Ar with _ | ad
    · exact absurd (Kd.V_reads' kf.out).2.2 (by intro hC; obtain ⟨ad, _, ha, _⟩ := Kd.C_get hC z23 0 (by omega) (by have := LEN.out; omega); cases ha)
    obtain ⟨l1, l2⟩ := rlast_snap (Kd.V_reads' kf.out).2.2 rfl LEN.out
    have hp0 := LEN.out
    have hp1 : 0 ≤ (s.redo.length : Int) - 1 := by omega
    have hp2 : (s.redo.length : Int) - 1 < (s.redo.length : Int) := by omega
    clear HE HR HEX d0 d1 d2 d3 d4 d5 d6 d7 d8 d9 q hb hb2
    have HE := HE'
    have HR := HR'
    clear HE' HR'
    have hqe := blk_frozen HE.out
    obtain ⟨d0, d1, d2, d3, d4, d5, d6, d7, d8, d9⟩ := Box.cells (s := s) HE.out
    have hqr := blk_frozen HR.out
    obtain ⟨r0, r1, r2, r3, r4, r5, r6, r7, r8, r9⟩ := ten_cells HR.out
    obtain ⟨wx, hwx⟩ : ∃ z, z = (((((((w2.setCell ⟨w.heap.size, 0, none⟩ (.string (lastS s.redo).f0)).setCell ⟨w.heap.size, 1, none⟩ (.int .i64 (lastS s.redo).f1)).setCell ⟨w.heap.size, 4, none⟩ (.slice (some ad) T.length cr)).setCell ⟨w.heap.size, 5, none⟩ (.slice A0 (pushS s.undo ⟨s.text, s.pos⟩).length c0)).setCell ⟨w.heap.size, 4, none⟩ (.slice A0 (pushS s.undo ⟨s.text, s.pos⟩).length c0)).setCell ⟨w.heap.size, 5, none⟩ (.slice (some ad) T.length cr)).setCell ⟨w.heap.size, 2, none⟩ (.int .i64 s.mark)) := ⟨_, rfl⟩
    have HEX := Aside0.mk (show wx.heap[w.heap.size]? = some (.cells #[.string (lastS s.redo).f0, .int .i64 (lastS s.redo).f1, .int .i64 s.mark, .slice Ak s.kills.length ck, .slice A0 (pushS s.undo ⟨s.text, s.pos⟩).length c0, .slice (some ad) T.length cr, .string s.keys, .int .i64 s.last, .int .i64 s.line, .string s.saved] 27 (0, 0)) from by rw [hwx]; exact (blk_put (cs' := #[.string (lastS s.redo).f0, .int .i64 (lastS s.redo).f1, .int .i64 s.mark, .slice Ak s.kills.length ck, .slice A0 (pushS s.undo ⟨s.text, s.pos⟩).length c0, .slice (some ad) T.length cr, .string s.keys, .int .i64 s.last, .int .i64 s.line, .string s.saved]) (blk_put (cs' := #[.string (lastS s.redo).f0, .int .i64 (lastS s.redo).f1, .int .i64 s.mark, .slice Ak s.kills.length ck, .slice A0 (pushS s.undo ⟨s.text, s.pos⟩).length c0, .slice (some ad) T.length cr, .string s.keys, .int .i64 s.last, .int .i64 s.line, .string s.saved]) (blk_put (cs' := #[.string (lastS s.redo).f0, .int .i64 (lastS s.redo).f1, .int .i64 s.mark, .slice Ak s.kills.length ck, .slice A0 (pushS s.undo ⟨s.text, s.pos⟩).length c0, .slice A0 (pushS s.undo ⟨s.text, s.pos⟩).length c0, .string s.keys, .int .i64 s.last, .int .i64 s.line, .string s.saved]) (blk_put (cs' := #[.string (lastS s.redo).f0, .int .i64 (lastS s.redo).f1, .int .i64 s.mark, .slice Ak s.kills.length ck, .slice (some ad) T.length cr, .slice A0 (pushS s.undo ⟨s.text, s.pos⟩).length c0, .string s.keys, .int .i64 s.last, .int .i64 s.line, .string s.saved]) (blk_put (cs' := #[.string (lastS s.redo).f0, .int .i64 (lastS s.redo).f1, .int .i64 s.mark, .slice Ak s.kills.length ck, .slice (some ad) T.length cr, .slice (some ad) s.redo.length cr, .string s.keys, .int .i64 s.last, .int .i64 s.line, .string s.saved]) (blk_put (cs' := #[.string (lastS s.redo).f0, .int .i64 (lastS s.redo).f1, .int .i64 s.mark, .slice Ak s.kills.length ck, .slice Au s.undo.length cu, .slice (some ad) s.redo.length cr, .string s.keys, .int .i64 s.last, .int .i64 s.line, .string s.saved]) (blk_put (cs' := #[.string (lastS s.redo).f0, .int .i64 s.pos, .int .i64 s.mark, .slice Ak s.kills.length ck, .slice Au s.undo.length cu, .slice (some ad) s.redo.length cr, .string s.keys, .int .i64 s.last, .int .i64 s.line, .string s.saved]) HE.out 0 (.string (lastS s.redo).f0) rfl) 1 (.int .i64 (lastS s.redo).f1) rfl) 4 (.slice (some ad) T.length cr) rfl) 5 (.slice A0 (pushS s.undo ⟨s.text, s.pos⟩).length c0) rfl) 4 (.slice A0 (pushS s.undo ⟨s.text, s.pos⟩).length c0) rfl) 5 (.slice (some ad) T.length cr) rfl) 2 (.int .i64 s.mark) rfl))
    have HRX := Aside0.mk (show wx.heap[w.heap.size + 1]? = some (.cells #[.string ⟨#[]⟩, .int .i64 0, .int .i64 0, .slice none 0 0, .slice none 0 0, .slice none 0 0, .string ⟨#[]⟩, .int .i64 0, .int .i64 0, .string ⟨#[]⟩] 27 (0, 0)) from by rw [hwx]; exact (blk_far (blk_far (blk_far (blk_far (blk_far (blk_far (blk_far HR.out (p := ⟨w.heap.size, 0, none⟩) (by simp) _) (p := ⟨w.heap.size, 1, none⟩) (by simp) _) (p := ⟨w.heap.size, 4, none⟩) (by simp) _) (p := ⟨w.heap.size, 5, none⟩) (by simp) _) (p := ⟨w.heap.size, 4, none⟩) (by simp) _) (p := ⟨w.heap.size, 5, none⟩) (by simp) _) (p := ⟨w.heap.size, 2, none⟩) (by simp) _))
    have HBX := Aside0.mk (show Below w.heap.size w wx from by rw [hwx]; exact (below_set (below_set (below_set (below_set (below_set (below_set (below_set HB2.out (Nat.le_refl _)) (Nat.le_refl _)) (Nat.le_refl _)) (Nat.le_refl _)) (Nat.le_refl _)) (Nat.le_refl _)) (Nat.le_refl _)))
    have X1 := Aside0.mk (show Kd.V Kd.string 9 wx 0 PN _ _ from by rw [hwx]; exact (Kd.V_far (Kd.V_far (Kd.V_far (Kd.V_far (Kd.V_far (Kd.V_far (Kd.V_far k1.out (p := ⟨w.heap.size, 0, none⟩) (fun k hk => by have := HPN.out k hk; simp; omega) _) (p := ⟨w.heap.size, 1, none⟩) (fun k hk => by have := HPN.out k hk; simp; omega) _) (p := ⟨w.heap.size, 4, none⟩) (fun k hk => by have := HPN.out k hk; simp; omega) _) (p := ⟨w.heap.size, 5, none⟩) (fun k hk => by have := HPN.out k hk; simp; omega) _) (p := ⟨w.heap.size, 4, none⟩) (fun k hk => by have := HPN.out k hk; simp; omega) _) (p := ⟨w.heap.size, 5, none⟩) (fun k hk => by have := HPN.out k hk; simp; omega) _) (p := ⟨w.heap.size, 2, none⟩) (fun k hk => by have := HPN.out k hk; simp; omega) _))
    have X2 := Aside0.mk (show Kd.V k23 23 wx 0 PN _ _ from by rw [hwx]; exact (Kd.V_far (Kd.V_far (Kd.V_far (Kd.V_far (Kd.V_far (Kd.V_far (Kd.V_far k4.out (p := ⟨w.heap.size, 0, none⟩) (fun k hk => by have := HPN.out k hk; simp; omega) _) (p := ⟨w.heap.size, 1, none⟩) (fun k hk => by have := HPN.out k hk; simp; omega) _) (p := ⟨w.heap.size, 4, none⟩) (fun k hk => by have := HPN.out k hk; simp; omega) _) (p := ⟨w.heap.size, 5, none⟩) (fun k hk => by have := HPN.out k hk; simp; omega) _) (p := ⟨w.heap.size, 4, none⟩) (fun k hk => by have := HPN.out k hk; simp; omega) _) (p := ⟨w.heap.size, 5, none⟩) (fun k hk => by have := HPN.out k hk; simp; omega) _) (p := ⟨w.heap.size, 2, none⟩) (fun k hk => by have := HPN.out k hk; simp; omega) _))
    have X3 := Aside0.mk (show Kd.V k23 23 wx 0 PN _ _ from by rw [hwx]; exact (Kd.V_far (Kd.V_far (Kd.V_far (Kd.V_far (Kd.V_far (Kd.V_far (Kd.V_far k2.out (p := ⟨w.heap.size, 0, none⟩) (fun k hk => by have := HPN.out k hk; simp; omega) _) (p := ⟨w.heap.size, 1, none⟩) (fun k hk => by have := HPN.out k hk; simp; omega) _) (p := ⟨w.heap.size, 4, none⟩) (fun k hk => by have := HPN.out k hk; simp; omega) _) (p := ⟨w.heap.size, 5, none⟩) (fun k hk => by have := HPN.out k hk; simp; omega) _) (p := ⟨w.heap.size, 4, none⟩) (fun k hk => by have := HPN.out k hk; simp; omega) _) (p := ⟨w.heap.size, 5, none⟩) (fun k hk => by have := HPN.out k hk; simp; omega) _) (p := ⟨w.heap.size, 2, none⟩) (fun k hk => by have := HPN.out k hk; simp; omega) _))
    have HWX := Aside0.mk hwx
    clear hwx
    go_upto_region 14 with (fail)
    rw [← HWX.out]
    clear l1 l2 hp0 hp1 hp2 hqe hqr d0 d1 d2 d3 d4 d5 d6 d7 d8 d9 r0 r1 r2 r3 r4 r5 r6 r7 r8 r9
    obtain ⟨d0, d1, d2, d3, d4, d5, d6, d7, d8, d9⟩ := ten_cells HEX.out
    have hqr := blk_frozen HRX.out
    obtain ⟨r0, r1, r2, r3, r4, r5, r6, r7, r8, r9⟩ := ten_cells HRX.out
    go_wp2_with (fail)
    obtain ⟨y1, y2, y3⟩ := put_edV (w := w) (W := wx) (s := { s with text := (lastS s.redo).f0, pos := (lastS s.redo).f1, mark := s.mark, redo := T, undo := (pushS s.undo ⟨s.text, s.pos⟩) }) (rb := w.heap.size + 1) X1.out X2.out X3.out (fun k hk => by have := (HPN.out k hk); omega) HRX.out HBX.out (by omega)
    refine bodyPost_ret (results_cell_row rfl _ _ (w.heap.size + 1) 27 _ (0, 0) _ rfl y1 hu27 rfl (by first | rfl | decide)) rfl ?_
    exact ⟨_, rfl, y2.mono HPQ.out, y3⟩
end Go.Proofs.Ytlbbjdggebgabaa.P
end

section
/- The reference's rotate. -/
namespace Go.Proofs.Ytlbbjdggebgabaa.P
open Go.RowKit Go.Proofs.YtlbbjdggebgabaaW.PrintWords Go.Proofs.YtlbbjdggebgabaaW.PrintLast Go.Proofs.YtlbbjdggebgabaaW.PrintMore
set_option linter.unusedVariables false
set_option linter.unusedSimpArgs false

theorem rot_no (s : St) (h : rotates s = false) : rotateS s = s := by unfold rotateS; rw [if_neg (by rw [h]; decide)]
theorem rot_long (s : St) (h : (((s.text.extract 0 (rotFrom s).toNat ++ lastOf s.kills.dropLast) ++ s.text.extract s.pos.toNat s.text.size).size : Int) > 4096) : rotateS s = s := by
  have e : rotSet s = (s, false) := by unfold rotSet setS; rw [if_pos h]
  unfold rotateS
  rw [e]
  split <;> rfl
theorem rot_yes (s : St) (h : rotates s = true) (h2 : ¬ (((s.text.extract 0 (rotFrom s).toNat ++ lastOf s.kills.dropLast) ++ s.text.extract s.pos.toNat s.text.size).size : Int) > 4096) : rotateS s = { (rotSet s).1 with kills := [lastOf s.kills] ++ s.kills.take (s.kills.length - 1) } := by
  have e : (rotSet s).2 = true := by
    unfold rotSet setS
    rw [if_neg h2]
    split <;> rfl
  unfold rotateS
  rw [if_pos h, if_pos e]
theorem str_cell {w : World} {ad : Addr} {n : Nat} {l : List ByteArray} (h : Kd.C Kd.string w (some ad) n l) (hn : n = l.length) (hp : 2 ≤ l.length) :
    w.cell? (ad.add (l.length - 1)) = some (.string (lastOf l)) ∧ w.cell? (ad.add (l.length - 2)) = some (.string (lastOf l.dropLast)) := by
  subst hn
  have e1 : ((l.length : Int) - 1).toNat = l.length - 1 := by omega
  have e2 : ((l.length : Int) - 2).toNat = l.length - 2 := by omega
  have h1 := Kd.foot_string h ((l.length : Int) - 1) (by omega) (by omega)
  have h2 := Kd.foot_string h ((l.length : Int) - 2) (by omega) (by omega)
  rw [e1, rdOf_last l (by omega)] at h1
  rw [e2] at h2
  refine ⟨h1, h2.trans ?_⟩
  unfold rdOf lastOf
  rw [e2]
  rcases List.eq_nil_or_concat l with rfl | ⟨a, b, rfl⟩
  · simp at hp
  · rcases List.eq_nil_or_concat a with rfl | ⟨a', b', rfl⟩
    · simp at hp
    · simp

set_option maxHeartbeats 16000000 in
set_option maxRecDepth 100000 in
theorem rrot_calls (w : World) (P : Nat → Prop) (s : St) (v : Value) (hv : EdV w P s v) (ok : OkS s) (hm : s.mark ≤ s.text.size) :
    Calls Try.prog 50 #[v] w fun e w' => ∃ v', e = .returned v' ∧ EdV w' (fun k => P k ∨ w.heap.size ≤ k) (rotateS s) v' ∧ Below w.heap.size w w' := by
  have hvo := hv.old
  obtain ⟨P0, hP0⟩ : ∃ Q : Nat → Prop, Q = fun k => P k ∧ k < w.heap.size := ⟨_, rfl⟩
  rw [← hP0] at hvo
  have hp1 : ∀ k, P0 k → P k ∧ k < w.heap.size := by intro k hk; rw [hP0] at hk; exact hk
  clear hP0
  obtain ⟨Ak, Au, Ar, ck, cu, cr, rfl, v1, v2, v3⟩ := hvo
  have hu27 := Try.underlying27
  have hu23 := Try.underlying23
  obtain ⟨w1, hw1⟩ : ∃ z, z = (w.alloc (.cells #[.string s.text, .int .i64 s.pos, .int .i64 s.mark, .slice Ak s.kills.length ck, .slice Au s.undo.length cu, .slice Ar s.redo.length cr, .string s.keys, .int .i64 s.last, .int .i64 s.line, .string s.saved] 27)).alloc (.cells #[.string ⟨#[]⟩, .int .i64 0, .int .i64 0, .slice none 0 0, .slice none 0 0, .slice none 0 0, .string ⟨#[]⟩, .int .i64 0, .int .i64 0, .string ⟨#[]⟩] 27) := ⟨_, rfl⟩
  obtain ⟨b1, b2, b3, b4⟩ := box2 w #[.string s.text, .int .i64 s.pos, .int .i64 s.mark, .slice Ak s.kills.length ck, .slice Au s.undo.length cu, .slice Ar s.redo.length cr, .string s.keys, .int .i64 s.last, .int .i64 s.line, .string s.saved] #[.string ⟨#[]⟩, .int .i64 0, .int .i64 0, .slice none 0 0, .slice none 0 0, .slice none 0 0, .string ⟨#[]⟩, .int .i64 0, .int .i64 0, .string ⟨#[]⟩] 27 27
  rw [← hw1] at b1 b2 b3 b4
  have HE := Aside0.mk b1
  have HR := Aside0.mk b2
  have HB1 := Aside0.mk b3
  have HSZ := Aside0.mk b4
  have HP1 := Aside0.mk hp1
  have HW1 := Aside0.mk hw1
  have HV := Aside0.mk (show EdV w1 P0 s (edV s (.slice Ak s.kills.length ck) (.slice Au s.undo.length cu) (.slice Ar s.redo.length cr)) from ⟨Ak, Au, Ar, ck, cu, cr, rfl, Kd.V_below v1 b3, Kd.V_below v2 b3, Kd.V_below v3 b3⟩)
  have K1 := Aside0.mk (Kd.V_below v1 b3)
  have K2 := Aside0.mk (Kd.V_below v2 b3)
  have K3 := Aside0.mk (Kd.V_below v3 b3)
  unfold edV at HV hv ⊢
  obtain ⟨d0, d1, d2, d3, d4, d5, d6, d7, d8, d9⟩ := Box.cells (s := s) b1
  clear hv v1 v2 v3 hw1 b1 b2 b3 b4 hp1
  clear d0 d1 d2 d3 d4 d5 d6 d7 d8 d9
  have h0 := ok.low
  have h1 := ok.high
  have hs := ok.text
  have hks := ok.each
  have hkl := ok.kills
  have HOK := Aside0.mk ok
  clear ok
  by_cases a : s.last = 15 ∨ s.last = 16
  case neg =>
    have hz : rotateS s = s := rot_no s (by unfold rotates; simp; intro h; exact absurd h a)
    rw [hz]
    have a1 : (s.last != 15) = true := bne_iff_ne.mpr (fun h => a (.inl h))
    have a2 : (s.last != 16) = true := bne_iff_ne.mpr (fun h => a (.inr h))
    clear a hz hks
    go_enter Try.func50, Try.ntmps50
    go_upto_region 1 with (fail)
    rw [← HW1.out]
    obtain ⟨d0, d1, d2, d3, d4, d5, d6, d7, d8, d9⟩ := Box.cells (s := s) HE.out
    go_region
    go_upto_region 3 with (fail)
    obtain ⟨W, hW⟩ : ∃ z, z = w1.drew := ⟨_, rfl⟩
    have hbl : Below w1.heap.size w1 W := by rw [hW]; exact (below_drew (Below.refl w1.heap.size w1))
    have HRX := Aside0.mk (blk_below HR.out hbl)
    have HWW := Aside0.mk hW
    have k1 := Aside0.mk (Kd.V_below K1.out hbl)
    have k2 := Aside0.mk (Kd.V_below K2.out hbl)
    have k3 := Aside0.mk (Kd.V_below K3.out hbl)
    have kb := Aside0.mk (below_step HB1.out hbl)
    have HEX := Aside0.mk (blk_below HE.out hbl)
    clear d0 d1 d2 d3 d4 d5 d6 d7 d8 d9 hbl hW
    rw [← HWW.out]
    obtain ⟨d0, d1, d2, d3, d4, d5, d6, d7, d8, d9⟩ := Box.cells (s := s) HEX.out
    have hqr := blk_frozen HRX.out
    obtain ⟨r0, r1, r2, r3, r4, r5, r6, r7, r8, r9⟩ := ten_cells HRX.out
    go_wp2_with (fail)
    obtain ⟨y1, y2, y3⟩ := put_edV (w := w) (W := W) (s := s) (rb := w.heap.size + 1) k1.out k2.out k3.out (fun k hk => by have := (HP1.out k hk).2; omega) HRX.out kb.out (by omega)
    refine bodyPost_ret (results_cell_row rfl _ _ (w.heap.size + 1) 27 _ (0, 0) _ rfl y1 hu27 rfl (by first | rfl | decide)) rfl ?_
    exact ⟨_, rfl, y2.mono (fun k hk => .inl (HP1.out k hk).1), y3⟩
  have a' : (s.last != 15) = false ∧ True ∨ (s.last != 15) = true ∧ (s.last != 16) = false := by
    by_cases l : s.last = 15
    · exact .inl ⟨bne_eq_false_iff_eq.mpr l, trivial⟩
    · exact .inr ⟨bne_iff_ne.mpr l, bne_eq_false_iff_eq.mpr (a.resolve_left l)⟩
  by_cases b : s.kills.length < 2
  · have hz : rotateS s = s := rot_no s (by unfold rotates; simp; intro _ h; omega)
    rw [hz]
    have b1 : decide ((s.kills.length : Int) < 2) = true := decide_eq_true (by omega)
    have b2 : decide (s.kills.length < 2) = true := decide_eq_true b
    clear hz b hks a
    rcases a' with ⟨a1, a2⟩ | ⟨a1, a2⟩
    all_goals
      go_enter Try.func50, Try.ntmps50
      go_upto_region 1 with (fail)
      rw [← HW1.out]
      obtain ⟨d0, d1, d2, d3, d4, d5, d6, d7, d8, d9⟩ := Box.cells (s := s) HE.out
      go_region
      go_upto_region 3 with (fail)
      obtain ⟨W, hW⟩ : ∃ z, z = w1.drew := ⟨_, rfl⟩
      have hbl : Below w1.heap.size w1 W := by rw [hW]; exact (below_drew (Below.refl w1.heap.size w1))
      have HRX := Aside0.mk (blk_below HR.out hbl)
      have HWW := Aside0.mk hW
      have k1 := Aside0.mk (Kd.V_below K1.out hbl)
      have k2 := Aside0.mk (Kd.V_below K2.out hbl)
      have k3 := Aside0.mk (Kd.V_below K3.out hbl)
      have kb := Aside0.mk (below_step HB1.out hbl)
      have HEX := Aside0.mk (blk_below HE.out hbl)
      clear d0 d1 d2 d3 d4 d5 d6 d7 d8 d9 hbl hW
      rw [← HWW.out]
      obtain ⟨d0, d1, d2, d3, d4, d5, d6, d7, d8, d9⟩ := Box.cells (s := s) HEX.out
      have hqr := blk_frozen HRX.out
      obtain ⟨r0, r1, r2, r3, r4, r5, r6, r7, r8, r9⟩ := ten_cells HRX.out
      go_wp2_with (fail)
      obtain ⟨y1, y2, y3⟩ := put_edV (w := w) (W := W) (s := s) (rb := w.heap.size + 1) k1.out k2.out k3.out (fun k hk => by have := (HP1.out k hk).2; omega) HRX.out kb.out (by omega)
      refine bodyPost_ret (results_cell_row rfl _ _ (w.heap.size + 1) 27 _ (0, 0) _ rfl y1 hu27 rfl (by first | rfl | decide)) rfl ?_
      exact ⟨_, rfl, y2.mono (fun k hk => .inl (HP1.out k hk).1), y3⟩
  have b1 : decide ((s.kills.length : Int) < 2) = false := decide_eq_false (by omega)
  have b2 : decide (s.kills.length < 2) = false := decide_eq_false b
  rcases Ak with _ | ad
  · exact absurd (Kd.V_reads' K1.out).2.2 (by intro hC; obtain ⟨ad, _, ha, _⟩ := Kd.C_get hC ByteArray.empty 0 (by omega) (by omega); cases ha)
  obtain ⟨l1, l2⟩ := str_cell (Kd.V_reads' K1.out).2.2 rfl (by omega)
  have hks1 : (lastOf s.kills).size ≤ 1000000 := hks _ (last_mem (by omega))
  have hks2 : (lastOf s.kills.dropLast).size ≤ 1000000 := hks _ (List.dropLast_subset _ (last_mem (by rw [List.length_dropLast]; omega)))
  obtain ⟨old, hold⟩ : ∃ z, z = lastOf s.kills := ⟨_, rfl⟩
  obtain ⟨young, hyoung⟩ : ∃ z, z = lastOf s.kills.dropLast := ⟨_, rfl⟩
  rw [← hold] at l1 hks1
  rw [← hyoung] at l2 hks2
  have e1 : IntKind.i64.wrap ((s.kills.length : Int) - 1) = (s.kills.length : Int) - 1 := by rw [IntKind.wrap_i64]; omega
  have e2 : IntKind.i64.wrap ((s.kills.length : Int) - 2) = (s.kills.length : Int) - 2 := by rw [IntKind.wrap_i64]; omega
  have n1 : 0 ≤ (s.kills.length : Int) - 1 := by omega
  have n2 : (s.kills.length : Int) - 1 < (s.kills.length : Int) := by omega
  have n3 : 0 ≤ (s.kills.length : Int) - 2 := by omega
  have n4 : (s.kills.length : Int) - 2 < (s.kills.length : Int) := by omega
  have n5 : 2 ≤ s.kills.length := by omega
  have n6 : 1 ≤ s.kills.length := by omega
  have n7 : 0 < s.kills.length := by omega
  obtain ⟨F, hF⟩ : ∃ F, s.pos - (old.size : Int) = F := ⟨_, rfl⟩
  have hF0 : rotFrom s = F := by unfold rotFrom; rw [← hold]; exact hF
  by_cases c : s.pos < (old.size : Int)
  · have hz : rotateS s = s := rot_no s (by unfold rotates; rw [hF0]; simp; intro _ _ h; omega)
    rw [hz]
    have c1 : decide (s.pos < (old.size : Int)) = true := decide_eq_true c
    clear hz b hks a c hold hyoung hF hF0 e1 e2
    rcases a' with ⟨a1, a2⟩ | ⟨a1, a2⟩
    all_goals
      go_enter Try.func50, Try.ntmps50
      go_upto_region 1 with (fail)
      rw [← HW1.out]
      obtain ⟨d0, d1, d2, d3, d4, d5, d6, d7, d8, d9⟩ := Box.cells (s := s) HE.out
      go_region
      go_upto_region 4 with (fail)
      go_region
      go_upto_region 6 with (fail)
      obtain ⟨W, hW⟩ : ∃ z, z = w1.drew.drew := ⟨_, rfl⟩
      have hbl : Below w1.heap.size w1 W := by rw [hW]; exact (below_drew (below_drew (Below.refl w1.heap.size w1)))
      have HRX := Aside0.mk (blk_below HR.out hbl)
      have HWW := Aside0.mk hW
      have k1 := Aside0.mk (Kd.V_below K1.out hbl)
      have k2 := Aside0.mk (Kd.V_below K2.out hbl)
      have k3 := Aside0.mk (Kd.V_below K3.out hbl)
      have kb := Aside0.mk (below_step HB1.out hbl)
      have HEX := Aside0.mk (blk_below HE.out hbl)
      clear d0 d1 d2 d3 d4 d5 d6 d7 d8 d9 hbl hW
      rw [← HWW.out]
      obtain ⟨d0, d1, d2, d3, d4, d5, d6, d7, d8, d9⟩ := Box.cells (s := s) HEX.out
      have hqr := blk_frozen HRX.out
      obtain ⟨r0, r1, r2, r3, r4, r5, r6, r7, r8, r9⟩ := ten_cells HRX.out
      go_wp2_with (fail)
      obtain ⟨y1, y2, y3⟩ := put_edV (w := w) (W := W) (s := s) (rb := w.heap.size + 1) k1.out k2.out k3.out (fun k hk => by have := (HP1.out k hk).2; omega) HRX.out kb.out (by omega)
      refine bodyPost_ret (results_cell_row rfl _ _ (w.heap.size + 1) 27 _ (0, 0) _ rfl y1 hu27 rfl (by first | rfl | decide)) rfl ?_
      exact ⟨_, rfl, y2.mono (fun k hk => .inl (HP1.out k hk).1), y3⟩
  have c1 : decide (s.pos < (old.size : Int)) = false := decide_eq_false c
  have c2 : 0 ≤ F := by omega
  have c3 : F ≤ s.pos := by omega
  have c4 : F ≤ (s.text.size : Int) := by omega
  by_cases d : (s.text.extract F.toNat s.pos.toNat).toList = old.toList
  case neg =>
    have hz : rotateS s = s := rot_no s (by unfold rotates; rw [hF0, ← hold]; simp; intro _ _ _; exact d)
    rw [hz]
    have d1' : ((s.text.extract F.toNat s.pos.toNat).toList != old.toList) = true := bne_iff_ne.mpr d
    have d2' : ((s.text.extract F.toNat s.pos.toNat).toList == old.toList) = false := beq_eq_false_iff_ne.mpr d
    clear hz b hks a c hold hyoung hF0 d e1 e2
    rcases a' with ⟨a1, a2⟩ | ⟨a1, a2⟩
    all_goals
      go_enter Try.func50, Try.ntmps50
      go_upto_region 1 with (fail)
      rw [← HW1.out]
      obtain ⟨d0, d1, d2, d3, d4, d5, d6, d7, d8, d9⟩ := Box.cells (s := s) HE.out
      go_region
      go_upto_region 4 with (fail)
      go_region
      go_upto_region 6 with (fail)
      obtain ⟨W, hW⟩ : ∃ z, z = w1.drew.drew := ⟨_, rfl⟩
      have hbl : Below w1.heap.size w1 W := by rw [hW]; exact (below_drew (below_drew (Below.refl w1.heap.size w1)))
      have HRX := Aside0.mk (blk_below HR.out hbl)
      have HWW := Aside0.mk hW
      have k1 := Aside0.mk (Kd.V_below K1.out hbl)
      have k2 := Aside0.mk (Kd.V_below K2.out hbl)
      have k3 := Aside0.mk (Kd.V_below K3.out hbl)
      have kb := Aside0.mk (below_step HB1.out hbl)
      have HEX := Aside0.mk (blk_below HE.out hbl)
      clear d0 d1 d2 d3 d4 d5 d6 d7 d8 d9 hbl hW
      rw [← HWW.out]
      obtain ⟨d0, d1, d2, d3, d4, d5, d6, d7, d8, d9⟩ := Box.cells (s := s) HEX.out
      have hqr := blk_frozen HRX.out
      obtain ⟨r0, r1, r2, r3, r4, r5, r6, r7, r8, r9⟩ := ten_cells HRX.out
      go_wp2_with (fail)
      obtain ⟨y1, y2, y3⟩ := put_edV (w := w) (W := W) (s := s) (rb := w.heap.size + 1) k1.out k2.out k3.out (fun k hk => by have := (HP1.out k hk).2; omega) HRX.out kb.out (by omega)
      refine bodyPost_ret (results_cell_row rfl _ _ (w.heap.size + 1) 27 _ (0, 0) _ rfl y1 hu27 rfl (by first | rfl | decide)) rfl ?_
      exact ⟨_, rfl, y2.mono (fun k hk => .inl (HP1.out k hk).1), y3⟩
  have d1' : ((s.text.extract F.toNat s.pos.toNat).toList != old.toList) = false := bne_eq_false_iff_eq.mpr d
  have d2' : ((s.text.extract F.toNat s.pos.toNat).toList == old.toList) = true := beq_iff_eq.mpr d
  have hsz : (((s.text.extract 0 (rotFrom s).toNat ++ lastOf s.kills.dropLast) ++ s.text.extract s.pos.toNat s.text.size).size : Int) = (s.text.size : Int) - (old.size : Int) + (young.size : Int) := by
    rw [hF0, ← hyoung]
    simp [ByteArray.size_append, ByteArray.size_extract]
    omega
  by_cases t : (s.text.size : Int) - (old.size : Int) + (young.size : Int) > 4096
  · have hz : rotateS s = s := rot_long s (by omega)
    rw [hz]
    have t1 : decide (4096 < (s.text.size : Int) - (old.size : Int) + (young.size : Int)) = true := decide_eq_true t
    clear hz b hks a c hold hyoung hF0 d e1 e2 hsz
    rcases a' with ⟨a1, a2⟩ | ⟨a1, a2⟩
    all_goals
      go_enter Try.func50, Try.ntmps50
      go_upto_region 1 with (fail)
      rw [← HW1.out]
      obtain ⟨d0, d1, d2, d3, d4, d5, d6, d7, d8, d9⟩ := Box.cells (s := s) HE.out
      go_region
      go_upto_region 4 with (fail)
      go_region
      go_upto_region 6 with (fail)
      obtain ⟨W, hW⟩ : ∃ z, z = w1.drew.drew := ⟨_, rfl⟩
      have hbl : Below w1.heap.size w1 W := by rw [hW]; exact (below_drew (below_drew (Below.refl w1.heap.size w1)))
      have HRX := Aside0.mk (blk_below HR.out hbl)
      have HWW := Aside0.mk hW
      have k1 := Aside0.mk (Kd.V_below K1.out hbl)
      have k2 := Aside0.mk (Kd.V_below K2.out hbl)
      have k3 := Aside0.mk (Kd.V_below K3.out hbl)
      have kb := Aside0.mk (below_step HB1.out hbl)
      have HEX := Aside0.mk (blk_below HE.out hbl)
      clear d0 d1 d2 d3 d4 d5 d6 d7 d8 d9 hbl hW
      rw [← HWW.out]
      obtain ⟨d0, d1, d2, d3, d4, d5, d6, d7, d8, d9⟩ := Box.cells (s := s) HEX.out
      have hqr := blk_frozen HRX.out
      obtain ⟨r0, r1, r2, r3, r4, r5, r6, r7, r8, r9⟩ := ten_cells HRX.out
      go_wp2_with (fail)
      obtain ⟨y1, y2, y3⟩ := put_edV (w := w) (W := W) (s := s) (rb := w.heap.size + 1) k1.out k2.out k3.out (fun k hk => by have := (HP1.out k hk).2; omega) HRX.out kb.out (by omega)
      refine bodyPost_ret (results_cell_row rfl _ _ (w.heap.size + 1) 27 _ (0, 0) _ rfl y1 hu27 rfl (by first | rfl | decide)) rfl ?_
      exact ⟨_, rfl, y2.mono (fun k hk => .inl (HP1.out k hk).1), y3⟩
  have t1 : decide (4096 < (s.text.size : Int) - (old.size : Int) + (young.size : Int)) = false := decide_eq_false t
  have hz := rot_yes s (by unfold rotates; rw [hF0, ← hold]; simp; exact ⟨⟨⟨a, by omega⟩, c2⟩, d⟩) (by omega)
  rw [hz]
  have hrs : rotSet s = setS s 16 ((s.text.extract 0 F.toNat ++ young) ++ s.text.extract s.pos.toNat s.text.size) (F + (young.size : Int)) := by unfold rotSet; rw [hF0, ← hyoung]
  rw [hrs, ← hold]
  obtain ⟨S, hS⟩ : ∃ z, z = (setS s 16 ((s.text.extract 0 F.toNat ++ young) ++ s.text.extract s.pos.toNat s.text.size) (F + (young.size : Int))).1 := ⟨_, rfl⟩
  rw [← hS]
  have E1 := Aside0.mk (show S.kills = s.kills from by rw [hS]; exact (setS_keep s 16 _ _).1)
  have HS := Aside0.mk hS
  obtain ⟨T, hT⟩ : ∃ T, T = s.kills.take (s.kills.length - 1) := ⟨_, rfl⟩
  rw [← hT]
  have HT := Aside0.mk hT
  obtain ⟨y, hy⟩ : ∃ z, z = [old] ++ T := ⟨_, rfl⟩
  rw [← hy]
  have Y1 := Aside0.mk hy
  have HTL := Aside0.mk (show T.length = s.kills.length - 1 from by rw [hT, List.length_take]; omega)
  obtain ⟨PN, hPN⟩ : ∃ Q : Nat → Prop, Q = fun k => P0 k ∨ w1.heap.size ≤ k := ⟨_, rfl⟩
  have HPN := Aside0.mk (show ∀ k, PN k → k ≠ w.heap.size ∧ k ≠ w.heap.size + 1 from by intro k hk; rw [hPN] at hk; have h1 := HP1.out k; have h2 := HSZ.out; rcases hk with hk | hk; exact (by have := (h1 hk).2; omega); exact (by omega))
  have HPQ := Aside0.mk (show ∀ k, PN k → (P k ∨ w.heap.size ≤ k) from by intro k hk; rw [hPN] at hk; have h2 := HSZ.out; rcases hk with hk | hk; exact .inl (HP1.out k hk).1; exact .inr (by omega))
  have HNQ := Aside0.mk (show ∀ k, w1.heap.size ≤ k → PN k from by intro k hk; rw [hPN]; exact .inr hk)
  have HQN := Aside0.mk (show ∀ k, (P0 k ∨ w1.heap.size ≤ k) → PN k from by intro k hk; rw [hPN]; exact hk)
  have v0 : min F.toNat s.text.size = F.toNat := by omega
  have v1 : (9223372036854775807 < F.toNat + young.size) = False := eq_false (by omega)
  have v2 : (9223372036854775807 < F.toNat + young.size + (s.text.size - s.pos.toNat)) = False := eq_false (by omega)
  have u1 : IntKind.i64.wrap (F + (young.size : Int)) = F + (young.size : Int) := by rw [IntKind.wrap_i64]; omega
  clear hy hz b hks a c hold hyoung hF0 d e1 e2 hsz hS hT hPN hrs t
  rcases a' with ⟨a1, a2⟩ | ⟨a1, a2⟩
  all_goals
    go_enter Try.func50, Try.ntmps50
    go_upto_region 1 with (fail)
    rw [← HW1.out]
    obtain ⟨d0, d1, d2, d3, d4, d5, d6, d7, d8, d9⟩ := Box.cells (s := s) HE.out
    go_region
    go_upto_region 4 with (fail)
    go_region
    go_upto_region 8 with (fail)
    refine wp_region_still_tail 15 (by kernel_rfl) (by kernel_rfl) ?_
    change wpStill _ _ w1.drew.drew.drew (fun a' => wpList _ _ _ _ a' w1.drew.drew.drew) _ _
    simp only [List.take_succ_cons, List.take_zero, List.drop_succ_cons, List.drop_zero]
    repeat still_step
    refine wpStill_nil ?_
    go_upto_region 9 with (first | (go_at_call 63; refine (redit_calls (w1.drew.drew.drew) P0 s _ _ 16 _ (HV.out.below (below_drew (below_drew (below_drew (Below.refl w1.heap.size w1))))) HOK.out.undo hm).mono ?_; rintro e w4 ⟨v4, rfl, hv4, hb⟩; have hbl := below_step (below_drew (below_drew (below_drew (Below.refl w1.heap.size w1)))) hb; have hv5 : EdV w4 (fun k => P0 k ∨ w1.heap.size ≤ k) S v4 := (by rw [HS.out]; exact hv4); clear d0 d1 d2 d3 d4 d5 d6 d7 d8 d9; have HE4 := Aside0.mk (blk_below HE.out hbl); have HR4 := Aside0.mk (blk_below HR.out hbl); have HBL := Aside0.mk hbl; have hqe := blk_frozen HE4.out; obtain ⟨d0, d1, d2, d3, d4, d5, d6, d7, d8, d9⟩ := ten_cells HE4.out; obtain ⟨Ak4, Au4, Ar4, ck4, cu4, cr4, hv6, g1, g2, g3⟩ := hv5.opn; rw [E1.out] at hv6 g1; subst hv6; have G1 := Aside0.mk g1; have G2 := Aside0.mk g2; have G3 := Aside0.mk g3; clear hv4 hv5 hb hbl g1 g2 g3))
    obtain ⟨wx, hwx⟩ : ∃ z, z = ((((((((((w4.setCell ⟨w.heap.size, 0, none⟩ (.string S.text)).setCell ⟨w.heap.size, 1, none⟩ (.int .i64 S.pos)).setCell ⟨w.heap.size, 2, none⟩ (.int .i64 S.mark)).setCell ⟨w.heap.size, 3, none⟩ (.slice Ak4 s.kills.length ck4)).setCell ⟨w.heap.size, 4, none⟩ (.slice Au4 S.undo.length cu4)).setCell ⟨w.heap.size, 5, none⟩ (.slice Ar4 S.redo.length cr4)).setCell ⟨w.heap.size, 6, none⟩ (.string S.keys)).setCell ⟨w.heap.size, 7, none⟩ (.int .i64 S.last)).setCell ⟨w.heap.size, 8, none⟩ (.int .i64 S.line)).setCell ⟨w.heap.size, 9, none⟩ (.string S.saved)) := ⟨_, rfl⟩
    have HEX := Aside0.mk (show wx.heap[w.heap.size]? = some (.cells #[.string S.text, .int .i64 S.pos, .int .i64 S.mark, .slice Ak4 s.kills.length ck4, .slice Au4 S.undo.length cu4, .slice Ar4 S.redo.length cr4, .string S.keys, .int .i64 S.last, .int .i64 S.line, .string S.saved] 27 (0, 0)) from by rw [hwx]; exact (blk_put (cs' := #[.string S.text, .int .i64 S.pos, .int .i64 S.mark, .slice Ak4 s.kills.length ck4, .slice Au4 S.undo.length cu4, .slice Ar4 S.redo.length cr4, .string S.keys, .int .i64 S.last, .int .i64 S.line, .string S.saved]) (blk_put (cs' := #[.string S.text, .int .i64 S.pos, .int .i64 S.mark, .slice Ak4 s.kills.length ck4, .slice Au4 S.undo.length cu4, .slice Ar4 S.redo.length cr4, .string S.keys, .int .i64 S.last, .int .i64 S.line, .string s.saved]) (blk_put (cs' := #[.string S.text, .int .i64 S.pos, .int .i64 S.mark, .slice Ak4 s.kills.length ck4, .slice Au4 S.undo.length cu4, .slice Ar4 S.redo.length cr4, .string S.keys, .int .i64 S.last, .int .i64 s.line, .string s.saved]) (blk_put (cs' := #[.string S.text, .int .i64 S.pos, .int .i64 S.mark, .slice Ak4 s.kills.length ck4, .slice Au4 S.undo.length cu4, .slice Ar4 S.redo.length cr4, .string S.keys, .int .i64 s.last, .int .i64 s.line, .string s.saved]) (blk_put (cs' := #[.string S.text, .int .i64 S.pos, .int .i64 S.mark, .slice Ak4 s.kills.length ck4, .slice Au4 S.undo.length cu4, .slice Ar4 S.redo.length cr4, .string s.keys, .int .i64 s.last, .int .i64 s.line, .string s.saved]) (blk_put (cs' := #[.string S.text, .int .i64 S.pos, .int .i64 S.mark, .slice Ak4 s.kills.length ck4, .slice Au4 S.undo.length cu4, .slice Ar s.redo.length cr, .string s.keys, .int .i64 s.last, .int .i64 s.line, .string s.saved]) (blk_put (cs' := #[.string S.text, .int .i64 S.pos, .int .i64 S.mark, .slice Ak4 s.kills.length ck4, .slice Au s.undo.length cu, .slice Ar s.redo.length cr, .string s.keys, .int .i64 s.last, .int .i64 s.line, .string s.saved]) (blk_put (cs' := #[.string S.text, .int .i64 S.pos, .int .i64 S.mark, .slice (some ad) s.kills.length ck, .slice Au s.undo.length cu, .slice Ar s.redo.length cr, .string s.keys, .int .i64 s.last, .int .i64 s.line, .string s.saved]) (blk_put (cs' := #[.string S.text, .int .i64 S.pos, .int .i64 s.mark, .slice (some ad) s.kills.length ck, .slice Au s.undo.length cu, .slice Ar s.redo.length cr, .string s.keys, .int .i64 s.last, .int .i64 s.line, .string s.saved]) (blk_put (cs' := #[.string S.text, .int .i64 s.pos, .int .i64 s.mark, .slice (some ad) s.kills.length ck, .slice Au s.undo.length cu, .slice Ar s.redo.length cr, .string s.keys, .int .i64 s.last, .int .i64 s.line, .string s.saved]) HE4.out 0 (.string S.text) rfl) 1 (.int .i64 S.pos) rfl) 2 (.int .i64 S.mark) rfl) 3 (.slice Ak4 s.kills.length ck4) rfl) 4 (.slice Au4 S.undo.length cu4) rfl) 5 (.slice Ar4 S.redo.length cr4) rfl) 6 (.string S.keys) rfl) 7 (.int .i64 S.last) rfl) 8 (.int .i64 S.line) rfl) 9 (.string S.saved) rfl))
    have HRX := Aside0.mk (show wx.heap[w.heap.size + 1]? = some (.cells #[.string ⟨#[]⟩, .int .i64 0, .int .i64 0, .slice none 0 0, .slice none 0 0, .slice none 0 0, .string ⟨#[]⟩, .int .i64 0, .int .i64 0, .string ⟨#[]⟩] 27 (0, 0)) from by rw [hwx]; exact (blk_far (blk_far (blk_far (blk_far (blk_far (blk_far (blk_far (blk_far (blk_far (blk_far HR4.out (p := ⟨w.heap.size, 0, none⟩) (by simp) _) (p := ⟨w.heap.size, 1, none⟩) (by simp) _) (p := ⟨w.heap.size, 2, none⟩) (by simp) _) (p := ⟨w.heap.size, 3, none⟩) (by simp) _) (p := ⟨w.heap.size, 4, none⟩) (by simp) _) (p := ⟨w.heap.size, 5, none⟩) (by simp) _) (p := ⟨w.heap.size, 6, none⟩) (by simp) _) (p := ⟨w.heap.size, 7, none⟩) (by simp) _) (p := ⟨w.heap.size, 8, none⟩) (by simp) _) (p := ⟨w.heap.size, 9, none⟩) (by simp) _))
    have HBX := Aside0.mk (show Below w.heap.size w wx from by rw [hwx]; exact (below_set (below_set (below_set (below_set (below_set (below_set (below_set (below_set (below_set (below_set (below_step HB1.out HBL.out) (Nat.le_refl _)) (Nat.le_refl _)) (Nat.le_refl _)) (Nat.le_refl _)) (Nat.le_refl _)) (Nat.le_refl _)) (Nat.le_refl _)) (Nat.le_refl _)) (Nat.le_refl _)) (Nat.le_refl _)))
    have hle : w1.heap.size ≤ wx.heap.size := by
      have h1 := HBL.out.size
      have h2 : wx.heap.size = w4.heap.size := by rw [hwx]; simp [World.setCell]
      omega
    have HLE := Aside0.mk hle
    have X1 := Aside0.mk (Kd.V_bound (show Kd.V Kd.string 9 wx 0 PN _ _ from by rw [hwx]; exact (Kd.V_far (Kd.V_far (Kd.V_far (Kd.V_far (Kd.V_far (Kd.V_far (Kd.V_far (Kd.V_far (Kd.V_far (Kd.V_far (Kd.V_mono G1.out HQN.out) (p := ⟨w.heap.size, 0, none⟩) (fun k hk => by have := HPN.out k hk; simp; omega) _) (p := ⟨w.heap.size, 1, none⟩) (fun k hk => by have := HPN.out k hk; simp; omega) _) (p := ⟨w.heap.size, 2, none⟩) (fun k hk => by have := HPN.out k hk; simp; omega) _) (p := ⟨w.heap.size, 3, none⟩) (fun k hk => by have := HPN.out k hk; simp; omega) _) (p := ⟨w.heap.size, 4, none⟩) (fun k hk => by have := HPN.out k hk; simp; omega) _) (p := ⟨w.heap.size, 5, none⟩) (fun k hk => by have := HPN.out k hk; simp; omega) _) (p := ⟨w.heap.size, 6, none⟩) (fun k hk => by have := HPN.out k hk; simp; omega) _) (p := ⟨w.heap.size, 7, none⟩) (fun k hk => by have := HPN.out k hk; simp; omega) _) (p := ⟨w.heap.size, 8, none⟩) (fun k hk => by have := HPN.out k hk; simp; omega) _) (p := ⟨w.heap.size, 9, none⟩) (fun k hk => by have := HPN.out k hk; simp; omega) _)))
    have X2 := Aside0.mk (Kd.V_bound (show Kd.V k23 23 wx 0 PN _ _ from by rw [hwx]; exact (Kd.V_far (Kd.V_far (Kd.V_far (Kd.V_far (Kd.V_far (Kd.V_far (Kd.V_far (Kd.V_far (Kd.V_far (Kd.V_far (Kd.V_mono G2.out HQN.out) (p := ⟨w.heap.size, 0, none⟩) (fun k hk => by have := HPN.out k hk; simp; omega) _) (p := ⟨w.heap.size, 1, none⟩) (fun k hk => by have := HPN.out k hk; simp; omega) _) (p := ⟨w.heap.size, 2, none⟩) (fun k hk => by have := HPN.out k hk; simp; omega) _) (p := ⟨w.heap.size, 3, none⟩) (fun k hk => by have := HPN.out k hk; simp; omega) _) (p := ⟨w.heap.size, 4, none⟩) (fun k hk => by have := HPN.out k hk; simp; omega) _) (p := ⟨w.heap.size, 5, none⟩) (fun k hk => by have := HPN.out k hk; simp; omega) _) (p := ⟨w.heap.size, 6, none⟩) (fun k hk => by have := HPN.out k hk; simp; omega) _) (p := ⟨w.heap.size, 7, none⟩) (fun k hk => by have := HPN.out k hk; simp; omega) _) (p := ⟨w.heap.size, 8, none⟩) (fun k hk => by have := HPN.out k hk; simp; omega) _) (p := ⟨w.heap.size, 9, none⟩) (fun k hk => by have := HPN.out k hk; simp; omega) _)))
    have X3 := Aside0.mk (Kd.V_bound (show Kd.V k23 23 wx 0 PN _ _ from by rw [hwx]; exact (Kd.V_far (Kd.V_far (Kd.V_far (Kd.V_far (Kd.V_far (Kd.V_far (Kd.V_far (Kd.V_far (Kd.V_far (Kd.V_far (Kd.V_mono G3.out HQN.out) (p := ⟨w.heap.size, 0, none⟩) (fun k hk => by have := HPN.out k hk; simp; omega) _) (p := ⟨w.heap.size, 1, none⟩) (fun k hk => by have := HPN.out k hk; simp; omega) _) (p := ⟨w.heap.size, 2, none⟩) (fun k hk => by have := HPN.out k hk; simp; omega) _) (p := ⟨w.heap.size, 3, none⟩) (fun k hk => by have := HPN.out k hk; simp; omega) _) (p := ⟨w.heap.size, 4, none⟩) (fun k hk => by have := HPN.out k hk; simp; omega) _) (p := ⟨w.heap.size, 5, none⟩) (fun k hk => by have := HPN.out k hk; simp; omega) _) (p := ⟨w.heap.size, 6, none⟩) (fun k hk => by have := HPN.out k hk; simp; omega) _) (p := ⟨w.heap.size, 7, none⟩) (fun k hk => by have := HPN.out k hk; simp; omega) _) (p := ⟨w.heap.size, 8, none⟩) (fun k hk => by have := HPN.out k hk; simp; omega) _) (p := ⟨w.heap.size, 9, none⟩) (fun k hk => by have := HPN.out k hk; simp; omega) _)))
    have HWX := Aside0.mk hwx
    clear hwx hle
    go_upto_region 9 with (fail)
    rw [← HWX.out]
    have hAB : Below wx.heap.size wx (wx.alloc (.cells #[.string old] 9)) := below_alloc (Below.refl _ _) _
    have HE6 := Aside0.mk (blk_below HEX.out hAB)
    have HR6 := Aside0.mk (blk_below HRX.out hAB)
    have HO6 := Aside0.mk (lit_one wx old (Nat.le_refl wx.heap.size))
    have T6 := Aside0.mk (show Kd.V Kd.string 9 wx 0 (fun k => PN k ∧ k < wx.heap.size) (.slice Ak4 T.length ck4) T from by have h := V_take X1.out (Nat.sub_le s.kills.length 1); rw [← HT.out] at h; exact h)
    have T7 := Aside0.mk (Kd.V_below T6.out hAB)
    have U6 := Aside0.mk (Kd.V_below X2.out hAB)
    have R6 := Aside0.mk (Kd.V_below X3.out hAB)
    have HAB := Aside0.mk hAB
    obtain ⟨i013, hi013, _, hsz13, _⟩ := info_parts info9
    have hcut := cut_to (P := Try.prog) 24 9 .i64 Try.underlying24 hi013 Ak4 s.kills.length ck4 ((s.kills.length : Int) - 1) (by omega) (by omega) (Kd.V_reads' X1.out).2.1
    have hcutn : ((s.kills.length : Int) - 1).toNat = T.length := by have := HTL.out; omega
    rw [hcutn] at hcut
    have p6 : (wx.alloc (.cells #[.string old] 9)).cell? ⟨w.heap.size, 3, none⟩ = some (.slice Ak4 s.kills.length ck4) := (blk_cell HE6.out 3).trans rfl
    clear hcutn hsz13 hi013 hAB d0 d1 d2 d3 d4 d5 d6 d7 d8 d9 hqe
    go_upto_region 10 with (first | ((with_reducible refine gate_builtin (b := .append) (xs := #[.tmp 91, .tmp 96]) rfl ?_); at_builtin; refine Kd.R_append_rows Kd.string (w0 := wx) wx.heap.size rfl (.tmp 91) (.tmp 96) 24 9 (.string ⟨#[]⟩) 16 rfl Try.underlying24 info9 rfl (by decide) (by omega) (.slice (some ⟨wx.heap.size, 0, none⟩) 1 1) [old] T Ak4 T.length ck4 (fun _ => True) (fun _ => False) rfl rfl ?aO ?aR (fun _ _ h => h) (fun _ h => h.elim) (fun _ _ => trivial) ?aB ?aS ?aL ?_; (case aR => exact (Kd.V_reads' T7.out).2.2); (case aO => exact HO6.out); (case aB => exact HAB.out); (case aS => exact HAB.out.size); (case aL => (have := HTL.out; simp only [List.length_cons, List.length_nil]; omega)); intro v7 w7 ho7 hb7 hg7 hat7; rw [← Y1.out] at ho7; obtain ⟨A7, n7, rfl⟩ := Kd.R_slice ho7; have HE7 := Aside0.mk (blk_grown HE6.out hg7 (Kd.R_ne HO6.out HE6.out (by decide))); have HR7 := Aside0.mk (blk_grown HR6.out hg7 (Kd.R_ne HO6.out HR6.out (by decide))); have U7 := Aside0.mk (Kd.V_mono (Kd.V_grown U6.out hg7 (fun k hk h => by have h2 := hk.2; simp [Value.ownBlock] at h; omega)) (fun k hk => hk.1)); have R7 := Aside0.mk (Kd.V_mono (Kd.V_grown R6.out hg7 (fun k hk h => by have h2 := hk.2; simp [Value.ownBlock] at h; omega)) (fun k hk => hk.1)); have V7 := Aside0.mk (Kd.V_mono (Kd.R_V (base' := 0) (Kd.R_bound ho7)) (fun k hk => HNQ.out k (Nat.le_trans HLE.out hk.2.1))); have HB7 := Aside0.mk (below_step HBX.out hb7); have p8 := (blk_cell HE7.out 3).trans rfl; have hqf := blk_frozen HE7.out; clear ho7 hb7 hg7 hat7))
    obtain ⟨wz, hwz⟩ : ∃ z, z = (w7.setCell ⟨w.heap.size, 3, none⟩ (.slice A7 y.length n7)) := ⟨_, rfl⟩
    have HEZ := Aside0.mk (show wz.heap[w.heap.size]? = some (.cells #[.string S.text, .int .i64 S.pos, .int .i64 S.mark, .slice A7 y.length n7, .slice Au4 S.undo.length cu4, .slice Ar4 S.redo.length cr4, .string S.keys, .int .i64 S.last, .int .i64 S.line, .string S.saved] 27 (0, 0)) from by rw [hwz]; exact (blk_put (cs' := #[.string S.text, .int .i64 S.pos, .int .i64 S.mark, .slice A7 y.length n7, .slice Au4 S.undo.length cu4, .slice Ar4 S.redo.length cr4, .string S.keys, .int .i64 S.last, .int .i64 S.line, .string S.saved]) HE7.out 3 (.slice A7 y.length n7) rfl))
    have HRZ := Aside0.mk (show wz.heap[w.heap.size + 1]? = some (.cells #[.string ⟨#[]⟩, .int .i64 0, .int .i64 0, .slice none 0 0, .slice none 0 0, .slice none 0 0, .string ⟨#[]⟩, .int .i64 0, .int .i64 0, .string ⟨#[]⟩] 27 (0, 0)) from by rw [hwz]; exact (blk_far HR7.out (p := ⟨w.heap.size, 3, none⟩) (by simp) _))
    have HBZ := Aside0.mk (show Below w.heap.size w wz from by rw [hwz]; exact (below_set HB7.out (Nat.le_refl _)))
    have Z1 := Aside0.mk (show Kd.V Kd.string 9 wz 0 PN _ _ from by rw [hwz]; exact (Kd.V_far V7.out (p := ⟨w.heap.size, 3, none⟩) (fun k hk => by have := HPN.out k hk; simp; omega) _))
    have Z2 := Aside0.mk (show Kd.V k23 23 wz 0 PN _ _ from by rw [hwz]; exact (Kd.V_far U7.out (p := ⟨w.heap.size, 3, none⟩) (fun k hk => by have := HPN.out k hk; simp; omega) _))
    have Z3 := Aside0.mk (show Kd.V k23 23 wz 0 PN _ _ from by rw [hwz]; exact (Kd.V_far R7.out (p := ⟨w.heap.size, 3, none⟩) (fun k hk => by have := HPN.out k hk; simp; omega) _))
    have HWZ := Aside0.mk hwz
    clear hwz
    rw [← HWZ.out]
    clear p8 hqf
    obtain ⟨d0, d1, d2, d3, d4, d5, d6, d7, d8, d9⟩ := ten_cells HEZ.out
    have hqr := blk_frozen HRZ.out
    obtain ⟨r0, r1, r2, r3, r4, r5, r6, r7, r8, r9⟩ := ten_cells HRZ.out
    go_wp2_with (fail)
    obtain ⟨y1, y2, y3⟩ := put_edV (w := w) (W := wz) (s := { S with kills := y }) (rb := w.heap.size + 1) Z1.out Z2.out Z3.out (fun k hk => by have := HPN.out k hk; omega) HRZ.out HBZ.out (by omega)
    refine bodyPost_ret (results_cell_row rfl _ _ (w.heap.size + 1) 27 _ (0, 0) _ rfl y1 hu27 rfl (by first | rfl | decide)) rfl ?_
    exact ⟨_, rfl, y2.mono HPQ.out, y3⟩
end Go.Proofs.Ytlbbjdggebgabaa.P
end

section
/- The reference's letters. -/
namespace Go.Proofs.Ytlbbjdggebgabaa.P
open Go.RowKit Go.Proofs.YtlbbjdggebgabaaW.PrintWords Go.Proofs.YtlbbjdggebgabaaW.PrintLast Go.Proofs.YtlbbjdggebgabaaW.PrintMore
set_option linter.unusedVariables false
set_option linter.unusedSimpArgs false

theorem caseFrom_get (a : Int) (lim : Nat) : ∀ (k i : Nat) (xs : List Int), lim ≤ i + k → ∀ j, (caseFrom a lim k i xs)[j]? = (xs[j]?).map (fun c => if i ≤ j ∧ j < lim then casedB a c else c)
  | 0, i, xs, h, j => by
    rw [caseFrom]
    cases hx : xs[j]? with
    | none => rfl
    | some c => rw [Option.map_some, if_neg (by omega)]
  | k + 1, i, xs, h, j => by
    rw [caseFrom]
    split
    · rename_i hi
      rw [caseFrom_get a lim k (i + 1) _ (by omega), List.getElem?_set]
      by_cases hij : i = j
      · subst hij
        by_cases hl : i < xs.length
        · rw [if_pos rfl, if_pos hl, List.getElem?_eq_getElem hl, Option.map_some, Option.map_some, if_neg (by omega), if_pos ⟨Nat.le_refl _, hi⟩, Option.getD_some]
        · rw [if_pos rfl, if_neg hl, List.getElem?_eq_none (by omega)]
          rfl
      · rw [if_neg hij]
        congr 1
        funext c
        by_cases h1 : i ≤ j ∧ j < lim
        · rw [if_pos h1, if_pos ⟨by omega, h1.2⟩]
        · rw [if_neg h1, if_neg (by omega)]
    · cases hx : xs[j]? with
      | none => rfl
      | some c => rw [Option.map_some, if_neg (by omega)]
theorem strOfNums_app (a b : List Int) : strOfNums (a ++ b) = strOfNums a ++ strOfNums b := by
  apply ByteArray.ext
  unfold strOfNums
  rw [ByteArray.data_append]
  simp
theorem nums_cut (t : ByteArray) (i j : Nat) : strOfNums (((nums t).take j).drop i) = t.extract i j := by
  apply ByteArray.ext
  apply Array.ext'
  rw [ext_list]
  unfold strOfNums nums
  simp [← List.map_take, ← List.map_drop, Function.comp_def]
theorem nums_at (t : ByteArray) (i : Nat) (h : i < t.size) : (nums t)[i]? = some ((t[i]'h).toNat : Int) := by
  unfold nums
  have : t.data.toList[i]? = some t[i] := by
    rw [Array.getElem?_toList]
    exact Array.getElem?_eq_getElem h
  rw [List.getElem?_map, this]
  rfl
/-- The line with the letters cased, and its three parts. -/
def caseZ (a : Int) (n lim : Nat) (t : ByteArray) : List Int := caseFrom a lim lim n (nums t)
theorem caseZ_start (a : Int) (n lim : Nat) (t : ByteArray) : strOfNums ((caseZ a n lim t).take n) = t.extract 0 n := by
  have h : (caseZ a n lim t).take n = ((nums t).take n).drop 0 := by
    apply List.ext_getElem?
    intro j
    rw [List.drop_zero, List.getElem?_take, List.getElem?_take]
    split
    · unfold caseZ
      rw [caseFrom_get a lim lim n _ (by omega)]
      cases (nums t)[j]? with
      | none => rfl
      | some c => rw [Option.map_some, if_neg (by omega)]
    · rfl
  rw [h, nums_cut]
theorem caseZ_step (a : Int) (n lim i : Nat) (t : ByteArray) (hn : n ≤ i) (hi : i < lim) (hl : lim ≤ t.size) (c : Int) (hc : ∀ h : i < t.size, ((t[i]'h).toNat : Int) = c) : strOfNums ((caseZ a n lim t).take (i + 1)) = strOfNums ((caseZ a n lim t).take i) ++ strOfNums [casedB a c] := by
  rw [← strOfNums_app, List.take_add_one]
  congr 2
  unfold caseZ
  rw [caseFrom_get a lim lim n _ (by omega), nums_at t i (by omega), Option.map_some, if_pos ⟨hn, hi⟩, hc]
  rfl
theorem caseZ_end (a : Int) (n lim : Nat) (t : ByteArray) (hl : lim ≤ t.size) : strOfNums ((caseZ a n lim t).take lim) ++ t.extract lim t.size = strOfNums (caseZ a n lim t) := by
  have h : (caseZ a n lim t).drop lim = ((nums t).take t.size).drop lim := by
    rw [List.take_of_length_le (by rw [nums_length]; omega)]
    apply List.ext_getElem?
    intro j
    rw [List.getElem?_drop, List.getElem?_drop]
    unfold caseZ
    rw [caseFrom_get a lim lim n _ (by omega)]
    cases (nums t)[lim + j]? with
    | none => rfl
    | some c => rw [Option.map_some, if_neg (by omega)]
  rw [← nums_cut t lim t.size, ← h, ← strOfNums_app, List.take_append_drop]
theorem caseZ_len (a : Int) (n lim : Nat) (t : ByteArray) : (caseZ a n lim t).length = t.size := by unfold caseZ; rw [caseFrom_length, nums_length]

set_option maxHeartbeats 16000000 in
set_option maxRecDepth 100000 in
theorem rletters_27 (w : World) (P : Nat → Prop) (s : St) (v : Value) (hv : EdV w P s v) (ok : OkS s) (hm : s.mark ≤ s.text.size) :
    Calls Try.prog 55 #[v, .bool true, .int .i64 27] w fun e w' => ∃ v', e = .returned v' ∧ EdV w' (fun k => P k ∨ w.heap.size ≤ k) (casedS s 27 (wordEndS s.text s.pos.toNat)) v' ∧ Below w.heap.size w w' := by
  have hvo := hv.old
  obtain ⟨P0, hP0⟩ : ∃ Q : Nat → Prop, Q = fun k => P k ∧ k < w.heap.size := ⟨_, rfl⟩
  rw [← hP0] at hvo
  have hp1 : ∀ k, P0 k → P k ∧ k < w.heap.size := by intro k hk; rw [hP0] at hk; exact hk
  clear hP0
  obtain ⟨Ak, Au, Ar, ck, cu, cr, rfl, v1, v2, v3⟩ := hvo
  have hu27 := Try.underlying27
  have hu23 := Try.underlying23
  obtain ⟨w1, hw1⟩ : ∃ z, z = (w.alloc (.cells #[.string s.text, .int .i64 s.pos, .int .i64 s.mark, .slice Ak s.kills.length ck, .slice Au s.undo.length cu, .slice Ar s.redo.length cr, .string s.keys, .int .i64 s.last, .int .i64 s.line, .string s.saved] 27)).alloc (.cells #[.string ⟨#[]⟩, .int .i64 0, .int .i64 0, .slice none 0 0, .slice none 0 0, .slice none 0 0, .string ⟨#[]⟩, .int .i64 0, .int .i64 0, .string ⟨#[]⟩] 27) := ⟨_, rfl⟩
  obtain ⟨b1, b2, b3, b4⟩ := box2 w #[.string s.text, .int .i64 s.pos, .int .i64 s.mark, .slice Ak s.kills.length ck, .slice Au s.undo.length cu, .slice Ar s.redo.length cr, .string s.keys, .int .i64 s.last, .int .i64 s.line, .string s.saved] #[.string ⟨#[]⟩, .int .i64 0, .int .i64 0, .slice none 0 0, .slice none 0 0, .slice none 0 0, .string ⟨#[]⟩, .int .i64 0, .int .i64 0, .string ⟨#[]⟩] 27 27
  rw [← hw1] at b1 b2 b3 b4
  have HE := Aside0.mk b1
  have HR := Aside0.mk b2
  have HB1 := Aside0.mk b3
  have HSZ := Aside0.mk b4
  have HP1 := Aside0.mk hp1
  have HW1 := Aside0.mk hw1
  have HV := Aside0.mk (show EdV w1 P0 s (edV s (.slice Ak s.kills.length ck) (.slice Au s.undo.length cu) (.slice Ar s.redo.length cr)) from ⟨Ak, Au, Ar, ck, cu, cr, rfl, Kd.V_below v1 b3, Kd.V_below v2 b3, Kd.V_below v3 b3⟩)
  have K1 := Aside0.mk (Kd.V_below v1 b3)
  have K2 := Aside0.mk (Kd.V_below v2 b3)
  have K3 := Aside0.mk (Kd.V_below v3 b3)
  unfold edV at HV hv ⊢
  obtain ⟨d0, d1, d2, d3, d4, d5, d6, d7, d8, d9⟩ := Box.cells (s := s) b1
  clear hv v1 v2 v3 hw1 b1 b2 b3 b4 hp1
  clear d0 d1 d2 d3 d4 d5 d6 d7 d8 d9
  have h0 := ok.low
  have h1 := ok.high
  have hs := ok.text
  have HOK := Aside0.mk ok
  clear ok
  obtain ⟨n, hn⟩ : ∃ n : Nat, s.pos = (n : Int) := ⟨s.pos.toNat, by omega⟩
  have hnt : s.pos.toNat = n := by omega
  rw [hnt]
  have hn1 : n ≤ s.text.size := by omega
  obtain ⟨lim, hlim⟩ : ∃ z, z = wordEndS s.text n := ⟨_, rfl⟩
  rw [← hlim]
  have hl1 : lim ≤ s.text.size := by rw [hlim]; exact wordEndS_le _ _ hn1
  have hl0 : n ≤ lim := by rw [hlim]; exact wordEndS_ge _ _
  have HNF := Aside0.mk (show jobshellref46_next.f (2 * s.text.size + 3) s.text (n : Int) = some (lim : Int) from by rw [hlim]; exact next_f s.text n hn1 (by omega))
  obtain ⟨Z, hZ⟩ : ∃ z, z = caseZ 27 n lim s.text := ⟨_, rfl⟩
  have hcs : casedS s 27 lim = (setS s 27 (strOfNums Z) (lim : Int)).1 := by unfold casedS; rw [hnt, hZ]; rfl
  rw [hcs]
  obtain ⟨S, hS⟩ : ∃ z, z = (setS s 27 (strOfNums Z) (lim : Int)).1 := ⟨_, rfl⟩
  rw [← hS]
  have HS := Aside0.mk hS
  have HZ := Aside0.mk hZ
  have HN := Aside0.mk hn
  have ZS := Aside0.mk (show strOfNums (Z.take n) = s.text.extract 0 n from by rw [hZ]; exact caseZ_start 27 n lim s.text)
  have ZE := Aside0.mk (show strOfNums (Z.take lim) ++ s.text.extract lim s.text.size = strOfNums Z from by rw [hZ]; exact caseZ_end 27 n lim s.text hl1)
  have ZL := Aside0.mk (show Z.length = s.text.size from by rw [hZ]; exact caseZ_len 27 n lim s.text)
  have q1 : (n : Int) ≤ (s.text.size : Int) := by omega
  have q2 : (lim : Int) ≤ (s.text.size : Int) := by omega
  clear hlim hS hZ hcs hnt hn
  go_enter Try.func55, Try.ntmps55
  go_upto_region 1 with (fail)
  rw [← HW1.out]
  obtain ⟨d0, d1, d2, d3, d4, d5, d6, d7, d8, d9⟩ := Box.cells (s := s) HE.out
  rw [HN.out] at d1
  go_region_held (fun w' => w'.cell? ⟨w.heap.size, 0, none⟩ = some (.string s.text) ∧ w'.cell? ⟨w.heap.size, 1, none⟩ = some (.int .i64 (n : Int))) (first | exact ⟨d0, d1⟩ | exact ⟨e0, e1⟩) ((go_at_call 48; refine (jobshellref46_next.calls (2 * s.text.size + 3) s.text (n : Int) (lim : Int) w1.drew HNF.out).mono ?_; rintro e w2 ⟨rfl, hb⟩; have hbl := below_step (below_drew (Below.refl w1.heap.size w1)) hb; have HBL := Aside0.mk hbl; have HE2 := Aside0.mk (blk_below HE.out hbl); have e0 := (blk_cell HE2.out 0).trans rfl; have e1 := (blk_cell HE2.out 1).trans rfl; rw [HN.out] at e1; clear hb hbl))
  clear d0 d1 d2 d3 d4 d5 d6 d7 d8 d9
  go_upto_region 2 with (fail)
  have d1 := e1
  clear e0 e1
  go_wp2
  go_loopg [9, 10] (lim - n) (fun kq v9 v10 wr => ∃ i : Nat, v10 = .int .i64 (i : Int) ∧ v9 = .string (strOfNums (Z.take i)) ∧ Aside0 (n ≤ i) ∧ Aside0 (lim ≤ i + kq) ∧ Aside0 (i ≤ lim) ∧ Aside0 (Below w1.heap.size w1 wr))
  case atStart => exact ⟨n, rfl, by rw [ZS.out], ⟨Nat.le_refl _⟩, ⟨by omega⟩, ⟨hl0⟩, HBL⟩
  case round =>
    obtain ⟨i, rfl, rfl, HNI, HK, HIL, HBW⟩ := hrel
    clear d1
    by_cases hi : i < lim
    · have z1 : (i : Int) < (lim : Int) := by omega
      have z2 : i < s.text.size := by omega
      have z3 : (i : Int) < (s.text.size : Int) := by omega
      cases gk with
      | zero => have := HK.out; omega
      | succ k1 =>
        obtain ⟨c, hc⟩ : ∃ c : Int, ∀ h : i < s.text.size, ((s.text[i]'h).toNat : Int) = c := ⟨(s.text[i]'z2).toNat, fun _ => rfl⟩
        have cr0 : 0 ≤ c := by rw [← hc z2]; omega
        have cr1 : c ≤ 255 := by rw [← hc z2]; have := (s.text[i]'z2).toNat_lt; omega
        have HSTEP := Aside0.mk (show strOfNums (Z.take (i + 1)) = strOfNums (Z.take i) ++ strOfNums [casedB 27 c] from by rw [HZ.out]; exact caseZ_step 27 n lim i s.text HNI.out hi hl1 c hc)
        obtain ⟨O, hO⟩ : ∃ z, z = strOfNums (Z.take i) := ⟨_, rfl⟩
        rw [← hO]
        have HO := Aside0.mk hO
        have hOz : O.size ≤ 1000000 := by rw [hO, strOfNums_size, List.length_take]; omega
        have HX := Aside0.mk (show ∀ x : Int, Below w1.heap.size w1 (wr.alloc (.cells #[.int .u8 x] 5)) from fun x => below_alloc HBW.out _)
        have conv : ∀ x : Int, (convert 66 9 (.slice (some ⟨wr.heap.size, 0, none⟩) 1 1)).run Try.prog (wr.alloc (.cells #[.int .u8 x] 5)) = .ok (.string (strOfNums [x])) (wr.alloc (.cells #[.int .u8 x] 5)) := by
          intro x
          refine run_convert_bytes_arg _ 66 5 Try.underlying66 Try.underlying5 wr.heap.size 0 1 1 [x] rfl (fun j hj => ?_) 9 Try.underlying9
          have hj0 : j = 0 := by omega
          subst hj0
          simp
        have csz : ∀ x : Int, (strOfNums [x]).size = 1 := fun x => by rw [strOfNums_size]; rfl
        clear hO
        by_cases hcc : 97 ≤ c ∧ c ≤ 122
        · obtain ⟨hc1, hc2⟩ := hcc
          have hcb := Aside0.mk (show casedB 27 c = c - 32 from by unfold casedB; simp only [hc1, hc2]; simp)
          have cw : IntKind.u8.wrap (c - 32) = c - 32 := by rw [IntKind.wrap_u8]; omega
          have conv1 := conv (c - 32)
          have csz1 := csz (c - 32)
          obtain ⟨X, hX⟩ : ∃ X, strOfNums [c - 32] = X := ⟨_, rfl⟩
          rw [hX] at conv1 csz1
          have HXX := Aside0.mk hX
          have csum : (9223372036854775807 < O.size + X.size) = False := eq_false (by omega)
          clear conv csz hX
          go_wp2
          go_roundg k1
          case measure => omega
          case rel => exact ⟨i + 1, by push_cast; rfl, by rw [HSTEP.out, hcb.out, HXX.out, HO.out], ⟨by have := HNI.out; omega⟩, ⟨by have := HK.out; omega⟩, ⟨by omega⟩, ⟨HX.out _⟩⟩
        · have hcb := Aside0.mk (show casedB 27 c = c from by unfold casedB; rw [if_neg (by omega), if_neg (by omega)])
          have conv1 := conv c
          have csz1 := csz c
          obtain ⟨X, hX⟩ : ∃ X, strOfNums [c] = X := ⟨_, rfl⟩
          rw [hX] at conv1 csz1
          have HXX := Aside0.mk hX
          have csum : (9223372036854775807 < O.size + X.size) = False := eq_false (by omega)
          have hc2 : ¬ 97 ≤ c ∨ (97 ≤ c ∧ ¬ c ≤ 122) := by omega
          clear conv csz hX hcc
          rcases hc2 with hc1 | ⟨hc1, hc2⟩
          all_goals
            go_wp2
            go_roundg k1
            case measure => omega
            case rel => exact ⟨i + 1, by push_cast; rfl, by rw [HSTEP.out, hcb.out, HXX.out, HO.out], ⟨by have := HNI.out; omega⟩, ⟨by have := HK.out; omega⟩, ⟨by omega⟩, ⟨HX.out _⟩⟩
    · have z1 : ¬ (i : Int) < (lim : Int) := by omega
      obtain rfl : i = lim := by have := HIL.out; omega
      obtain ⟨O, hO⟩ : ∃ z, z = strOfNums (Z.take i) := ⟨_, rfl⟩
      rw [← hO]
      have hOz : O.size = i := by rw [hO, strOfNums_size, List.length_take, ZL.out]; omega
      have ZE2 := ZE.out
      rw [← hO] at ZE2
      have HZE := Aside0.mk ZE2
      have v1 : (9223372036854775807 < O.size + (s.text.size - i)) = False := eq_false (by omega)
      have HEr := Aside0.mk (blk_below HE.out HBW.out)
      have HRr := Aside0.mk (blk_below HR.out HBW.out)
      have hur : 0 ≤ (i : Int) := by omega
      clear hO hOz ZE2
      go_upto_region 12 with (fail)
      obtain ⟨d0, d1, d2, d3, d4, d5, d6, d7, d8, d9⟩ := Box.cells (s := s) HEr.out
      refine wp_region_still_tail 9 (by kernel_rfl) (by kernel_rfl) ?_
      change wpStill _ _ wr.drew (fun a' => wpList _ _ _ _ a' wr.drew) _ _
      simp only [List.take_succ_cons, List.take_zero, List.drop_succ_cons, List.drop_zero]
      repeat still_step
      refine wpStill_nil ?_
      rw [HZE.out]
      have HBR := Aside0.mk (below_drew HBW.out)
      go_wp2_with (first | (go_at_call 63; refine (redit_calls wr.drew P0 s _ _ 27 _ (HV.out.below HBR.out) HOK.out.undo hm).mono ?_; rintro e w4 ⟨v4, rfl, hv4, hb⟩; have hbl := below_step HBR.out hb; have hszr := HBR.out.size; have hv5 : EdV w4 (fun k => P0 k ∨ w1.heap.size ≤ k) S v4 := (by rw [HS.out]; exact hv4.mono (fun k hk => hk.elim .inl (fun h => .inr (Nat.le_trans hszr h)))); clear hszr; have HR4 := Aside0.mk (blk_below HR.out hbl); have HBL := Aside0.mk hbl; have hqr := blk_frozen HR4.out; obtain ⟨r0, r1, r2, r3, r4, r5, r6, r7, r8, r9⟩ := ten_cells HR4.out; obtain ⟨Ak4, Au4, Ar4, ck4, cu4, cr4, rfl, g1, g2, g3⟩ := hv5.opn; have G1 := Aside0.mk g1; have G2 := Aside0.mk g2; have G3 := Aside0.mk g3; clear hv4 hv5 hb hbl g1 g2 g3))
      obtain ⟨y1, y2, y3⟩ := put_edV (w := w) (s := S) (rb := w.heap.size + 1) G1.out G2.out G3.out (fun k hk => by have h1 := HP1.out k; have h2 := HSZ.out; rcases hk with hk | hk; exact (by have := (h1 hk).2; omega); exact (by have h3 : w1.heap.size ≤ k := hk; omega)) HR4.out (below_step HB1.out HBL.out) (by omega)
      refine bodyPost_ret (results_cell_row rfl _ _ (w.heap.size + 1) 27 _ (0, 0) _ rfl y1 hu27 rfl (by first | rfl | decide)) rfl ?_
      exact ⟨_, rfl, y2.mono (fun k hk => by have h1 := HP1.out k; have h2 := HSZ.out; rcases hk with hk | hk; exact .inl (h1 hk).1; exact .inr (by have h3 : w1.heap.size ≤ k := hk; omega)), y3⟩
set_option maxHeartbeats 16000000 in
set_option maxRecDepth 100000 in
theorem rletters_28 (w : World) (P : Nat → Prop) (s : St) (v : Value) (hv : EdV w P s v) (ok : OkS s) (hm : s.mark ≤ s.text.size) :
    Calls Try.prog 55 #[v, .bool false, .int .i64 28] w fun e w' => ∃ v', e = .returned v' ∧ EdV w' (fun k => P k ∨ w.heap.size ≤ k) (casedS s 28 (wordEndS s.text s.pos.toNat)) v' ∧ Below w.heap.size w w' := by
  have hvo := hv.old
  obtain ⟨P0, hP0⟩ : ∃ Q : Nat → Prop, Q = fun k => P k ∧ k < w.heap.size := ⟨_, rfl⟩
  rw [← hP0] at hvo
  have hp1 : ∀ k, P0 k → P k ∧ k < w.heap.size := by intro k hk; rw [hP0] at hk; exact hk
  clear hP0
  obtain ⟨Ak, Au, Ar, ck, cu, cr, rfl, v1, v2, v3⟩ := hvo
  have hu27 := Try.underlying27
  have hu23 := Try.underlying23
  obtain ⟨w1, hw1⟩ : ∃ z, z = (w.alloc (.cells #[.string s.text, .int .i64 s.pos, .int .i64 s.mark, .slice Ak s.kills.length ck, .slice Au s.undo.length cu, .slice Ar s.redo.length cr, .string s.keys, .int .i64 s.last, .int .i64 s.line, .string s.saved] 27)).alloc (.cells #[.string ⟨#[]⟩, .int .i64 0, .int .i64 0, .slice none 0 0, .slice none 0 0, .slice none 0 0, .string ⟨#[]⟩, .int .i64 0, .int .i64 0, .string ⟨#[]⟩] 27) := ⟨_, rfl⟩
  obtain ⟨b1, b2, b3, b4⟩ := box2 w #[.string s.text, .int .i64 s.pos, .int .i64 s.mark, .slice Ak s.kills.length ck, .slice Au s.undo.length cu, .slice Ar s.redo.length cr, .string s.keys, .int .i64 s.last, .int .i64 s.line, .string s.saved] #[.string ⟨#[]⟩, .int .i64 0, .int .i64 0, .slice none 0 0, .slice none 0 0, .slice none 0 0, .string ⟨#[]⟩, .int .i64 0, .int .i64 0, .string ⟨#[]⟩] 27 27
  rw [← hw1] at b1 b2 b3 b4
  have HE := Aside0.mk b1
  have HR := Aside0.mk b2
  have HB1 := Aside0.mk b3
  have HSZ := Aside0.mk b4
  have HP1 := Aside0.mk hp1
  have HW1 := Aside0.mk hw1
  have HV := Aside0.mk (show EdV w1 P0 s (edV s (.slice Ak s.kills.length ck) (.slice Au s.undo.length cu) (.slice Ar s.redo.length cr)) from ⟨Ak, Au, Ar, ck, cu, cr, rfl, Kd.V_below v1 b3, Kd.V_below v2 b3, Kd.V_below v3 b3⟩)
  have K1 := Aside0.mk (Kd.V_below v1 b3)
  have K2 := Aside0.mk (Kd.V_below v2 b3)
  have K3 := Aside0.mk (Kd.V_below v3 b3)
  unfold edV at HV hv ⊢
  obtain ⟨d0, d1, d2, d3, d4, d5, d6, d7, d8, d9⟩ := Box.cells (s := s) b1
  clear hv v1 v2 v3 hw1 b1 b2 b3 b4 hp1
  clear d0 d1 d2 d3 d4 d5 d6 d7 d8 d9
  have h0 := ok.low
  have h1 := ok.high
  have hs := ok.text
  have HOK := Aside0.mk ok
  clear ok
  obtain ⟨n, hn⟩ : ∃ n : Nat, s.pos = (n : Int) := ⟨s.pos.toNat, by omega⟩
  have hnt : s.pos.toNat = n := by omega
  rw [hnt]
  have hn1 : n ≤ s.text.size := by omega
  obtain ⟨lim, hlim⟩ : ∃ z, z = wordEndS s.text n := ⟨_, rfl⟩
  rw [← hlim]
  have hl1 : lim ≤ s.text.size := by rw [hlim]; exact wordEndS_le _ _ hn1
  have hl0 : n ≤ lim := by rw [hlim]; exact wordEndS_ge _ _
  have HNF := Aside0.mk (show jobshellref46_next.f (2 * s.text.size + 3) s.text (n : Int) = some (lim : Int) from by rw [hlim]; exact next_f s.text n hn1 (by omega))
  obtain ⟨Z, hZ⟩ : ∃ z, z = caseZ 28 n lim s.text := ⟨_, rfl⟩
  have hcs : casedS s 28 lim = (setS s 28 (strOfNums Z) (lim : Int)).1 := by unfold casedS; rw [hnt, hZ]; rfl
  rw [hcs]
  obtain ⟨S, hS⟩ : ∃ z, z = (setS s 28 (strOfNums Z) (lim : Int)).1 := ⟨_, rfl⟩
  rw [← hS]
  have HS := Aside0.mk hS
  have HZ := Aside0.mk hZ
  have HN := Aside0.mk hn
  have ZS := Aside0.mk (show strOfNums (Z.take n) = s.text.extract 0 n from by rw [hZ]; exact caseZ_start 28 n lim s.text)
  have ZE := Aside0.mk (show strOfNums (Z.take lim) ++ s.text.extract lim s.text.size = strOfNums Z from by rw [hZ]; exact caseZ_end 28 n lim s.text hl1)
  have ZL := Aside0.mk (show Z.length = s.text.size from by rw [hZ]; exact caseZ_len 28 n lim s.text)
  have q1 : (n : Int) ≤ (s.text.size : Int) := by omega
  have q2 : (lim : Int) ≤ (s.text.size : Int) := by omega
  clear hlim hS hZ hcs hnt hn
  go_enter Try.func55, Try.ntmps55
  go_upto_region 1 with (fail)
  rw [← HW1.out]
  obtain ⟨d0, d1, d2, d3, d4, d5, d6, d7, d8, d9⟩ := Box.cells (s := s) HE.out
  rw [HN.out] at d1
  go_region_held (fun w' => w'.cell? ⟨w.heap.size, 0, none⟩ = some (.string s.text) ∧ w'.cell? ⟨w.heap.size, 1, none⟩ = some (.int .i64 (n : Int))) (first | exact ⟨d0, d1⟩ | exact ⟨e0, e1⟩) ((go_at_call 48; refine (jobshellref46_next.calls (2 * s.text.size + 3) s.text (n : Int) (lim : Int) w1.drew HNF.out).mono ?_; rintro e w2 ⟨rfl, hb⟩; have hbl := below_step (below_drew (Below.refl w1.heap.size w1)) hb; have HBL := Aside0.mk hbl; have HE2 := Aside0.mk (blk_below HE.out hbl); have e0 := (blk_cell HE2.out 0).trans rfl; have e1 := (blk_cell HE2.out 1).trans rfl; rw [HN.out] at e1; clear hb hbl))
  clear d0 d1 d2 d3 d4 d5 d6 d7 d8 d9
  go_upto_region 2 with (fail)
  have d1 := e1
  clear e0 e1
  go_wp2
  go_loopg [9, 10] (lim - n) (fun kq v9 v10 wr => ∃ i : Nat, v10 = .int .i64 (i : Int) ∧ v9 = .string (strOfNums (Z.take i)) ∧ Aside0 (n ≤ i) ∧ Aside0 (lim ≤ i + kq) ∧ Aside0 (i ≤ lim) ∧ Aside0 (Below w1.heap.size w1 wr))
  case atStart => exact ⟨n, rfl, by rw [ZS.out], ⟨Nat.le_refl _⟩, ⟨by omega⟩, ⟨hl0⟩, HBL⟩
  case round =>
    obtain ⟨i, rfl, rfl, HNI, HK, HIL, HBW⟩ := hrel
    clear d1
    by_cases hi : i < lim
    · have z1 : (i : Int) < (lim : Int) := by omega
      have z2 : i < s.text.size := by omega
      have z3 : (i : Int) < (s.text.size : Int) := by omega
      cases gk with
      | zero => have := HK.out; omega
      | succ k1 =>
        obtain ⟨c, hc⟩ : ∃ c : Int, ∀ h : i < s.text.size, ((s.text[i]'h).toNat : Int) = c := ⟨(s.text[i]'z2).toNat, fun _ => rfl⟩
        have cr0 : 0 ≤ c := by rw [← hc z2]; omega
        have cr1 : c ≤ 255 := by rw [← hc z2]; have := (s.text[i]'z2).toNat_lt; omega
        have HSTEP := Aside0.mk (show strOfNums (Z.take (i + 1)) = strOfNums (Z.take i) ++ strOfNums [casedB 28 c] from by rw [HZ.out]; exact caseZ_step 28 n lim i s.text HNI.out hi hl1 c hc)
        obtain ⟨O, hO⟩ : ∃ z, z = strOfNums (Z.take i) := ⟨_, rfl⟩
        rw [← hO]
        have HO := Aside0.mk hO
        have hOz : O.size ≤ 1000000 := by rw [hO, strOfNums_size, List.length_take]; omega
        have HX := Aside0.mk (show ∀ x : Int, Below w1.heap.size w1 (wr.alloc (.cells #[.int .u8 x] 5)) from fun x => below_alloc HBW.out _)
        have conv : ∀ x : Int, (convert 66 9 (.slice (some ⟨wr.heap.size, 0, none⟩) 1 1)).run Try.prog (wr.alloc (.cells #[.int .u8 x] 5)) = .ok (.string (strOfNums [x])) (wr.alloc (.cells #[.int .u8 x] 5)) := by
          intro x
          refine run_convert_bytes_arg _ 66 5 Try.underlying66 Try.underlying5 wr.heap.size 0 1 1 [x] rfl (fun j hj => ?_) 9 Try.underlying9
          have hj0 : j = 0 := by omega
          subst hj0
          simp
        have csz : ∀ x : Int, (strOfNums [x]).size = 1 := fun x => by rw [strOfNums_size]; rfl
        clear hO
        by_cases hcc : 65 ≤ c ∧ c ≤ 90
        · obtain ⟨hc1, hc2⟩ := hcc
          have hcb := Aside0.mk (show casedB 28 c = c + 32 from by unfold casedB; simp only [hc1, hc2]; simp)
          have cw : IntKind.u8.wrap (c + 32) = c + 32 := by rw [IntKind.wrap_u8]; omega
          have conv1 := conv (c + 32)
          have csz1 := csz (c + 32)
          obtain ⟨X, hX⟩ : ∃ X, strOfNums [c + 32] = X := ⟨_, rfl⟩
          rw [hX] at conv1 csz1
          have HXX := Aside0.mk hX
          have csum : (9223372036854775807 < O.size + X.size) = False := eq_false (by omega)
          clear conv csz hX
          go_wp2
          go_roundg k1
          case measure => omega
          case rel => exact ⟨i + 1, by push_cast; rfl, by rw [HSTEP.out, hcb.out, HXX.out, HO.out], ⟨by have := HNI.out; omega⟩, ⟨by have := HK.out; omega⟩, ⟨by omega⟩, ⟨HX.out _⟩⟩
        · have hcb := Aside0.mk (show casedB 28 c = c from by unfold casedB; rw [if_neg (by omega), if_neg (by omega)])
          have conv1 := conv c
          have csz1 := csz c
          obtain ⟨X, hX⟩ : ∃ X, strOfNums [c] = X := ⟨_, rfl⟩
          rw [hX] at conv1 csz1
          have HXX := Aside0.mk hX
          have csum : (9223372036854775807 < O.size + X.size) = False := eq_false (by omega)
          have hc2 : ¬ 65 ≤ c ∨ (65 ≤ c ∧ ¬ c ≤ 90) := by omega
          clear conv csz hX hcc
          rcases hc2 with hc1 | ⟨hc1, hc2⟩
          all_goals
            go_wp2
            go_roundg k1
            case measure => omega
            case rel => exact ⟨i + 1, by push_cast; rfl, by rw [HSTEP.out, hcb.out, HXX.out, HO.out], ⟨by have := HNI.out; omega⟩, ⟨by have := HK.out; omega⟩, ⟨by omega⟩, ⟨HX.out _⟩⟩
    · have z1 : ¬ (i : Int) < (lim : Int) := by omega
      obtain rfl : i = lim := by have := HIL.out; omega
      obtain ⟨O, hO⟩ : ∃ z, z = strOfNums (Z.take i) := ⟨_, rfl⟩
      rw [← hO]
      have hOz : O.size = i := by rw [hO, strOfNums_size, List.length_take, ZL.out]; omega
      have ZE2 := ZE.out
      rw [← hO] at ZE2
      have HZE := Aside0.mk ZE2
      have v1 : (9223372036854775807 < O.size + (s.text.size - i)) = False := eq_false (by omega)
      have HEr := Aside0.mk (blk_below HE.out HBW.out)
      have HRr := Aside0.mk (blk_below HR.out HBW.out)
      have hur : 0 ≤ (i : Int) := by omega
      clear hO hOz ZE2
      go_upto_region 12 with (fail)
      obtain ⟨d0, d1, d2, d3, d4, d5, d6, d7, d8, d9⟩ := Box.cells (s := s) HEr.out
      refine wp_region_still_tail 9 (by kernel_rfl) (by kernel_rfl) ?_
      change wpStill _ _ wr.drew (fun a' => wpList _ _ _ _ a' wr.drew) _ _
      simp only [List.take_succ_cons, List.take_zero, List.drop_succ_cons, List.drop_zero]
      repeat still_step
      refine wpStill_nil ?_
      rw [HZE.out]
      have HBR := Aside0.mk (below_drew HBW.out)
      go_wp2_with (first | (go_at_call 63; refine (redit_calls wr.drew P0 s _ _ 28 _ (HV.out.below HBR.out) HOK.out.undo hm).mono ?_; rintro e w4 ⟨v4, rfl, hv4, hb⟩; have hbl := below_step HBR.out hb; have hszr := HBR.out.size; have hv5 : EdV w4 (fun k => P0 k ∨ w1.heap.size ≤ k) S v4 := (by rw [HS.out]; exact hv4.mono (fun k hk => hk.elim .inl (fun h => .inr (Nat.le_trans hszr h)))); clear hszr; have HR4 := Aside0.mk (blk_below HR.out hbl); have HBL := Aside0.mk hbl; have hqr := blk_frozen HR4.out; obtain ⟨r0, r1, r2, r3, r4, r5, r6, r7, r8, r9⟩ := ten_cells HR4.out; obtain ⟨Ak4, Au4, Ar4, ck4, cu4, cr4, rfl, g1, g2, g3⟩ := hv5.opn; have G1 := Aside0.mk g1; have G2 := Aside0.mk g2; have G3 := Aside0.mk g3; clear hv4 hv5 hb hbl g1 g2 g3))
      obtain ⟨y1, y2, y3⟩ := put_edV (w := w) (s := S) (rb := w.heap.size + 1) G1.out G2.out G3.out (fun k hk => by have h1 := HP1.out k; have h2 := HSZ.out; rcases hk with hk | hk; exact (by have := (h1 hk).2; omega); exact (by have h3 : w1.heap.size ≤ k := hk; omega)) HR4.out (below_step HB1.out HBL.out) (by omega)
      refine bodyPost_ret (results_cell_row rfl _ _ (w.heap.size + 1) 27 _ (0, 0) _ rfl y1 hu27 rfl (by first | rfl | decide)) rfl ?_
      exact ⟨_, rfl, y2.mono (fun k hk => by have h1 := HP1.out k; have h2 := HSZ.out; rcases hk with hk | hk; exact .inl (h1 hk).1; exact .inr (by have h3 : w1.heap.size ≤ k := hk; omega)), y3⟩
end Go.Proofs.Ytlbbjdggebgabaa.P
end
