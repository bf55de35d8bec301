/- Texts of this claim, joined: R4, R5, Px13, R6, R7, R8. -/
import Derived.Test.YtlbbjdggebgabaaRDM7
import Derived.Test.YtlbbjdggebgabaaRDM4
import Derived.Test.YtlbbjdggebgabaaRDM3
section
/- The reference's down. -/
namespace Go.Proofs.Ytlbbjdggebgabaa.P
open Go.RowKit Go.Proofs.YtlbbjdggebgabaaW.PrintWords Go.Proofs.YtlbbjdggebgabaaW.PrintLast Go.Proofs.YtlbbjdggebgabaaW.PrintMore
set_option linter.unusedVariables false
set_option linter.unusedSimpArgs false

theorem down_more (s : St) (T : ByteArray) (h0 : 1 < s.line) (hT : T = nthLast s.lines (s.line - 1)) (hs : ¬ (T.size : Int) > 4096) (hl : s.line ≤ (s.lines.length : Int)) : downS s = showS { s with line := s.line - 1 } T := by
  unfold downS lineS
  have e : lineText s (s.line - 1) = T := by unfold lineText; rw [if_pos (by omega), hT]
  rw [if_pos ⟨by omega, hl⟩, e, if_neg hs, if_neg (by omega), if_neg (by omega)]
  rfl
theorem down_one (s : St) (h0 : s.line = 1) (hs : s.saved.size ≤ 4096) (hl : s.line ≤ (s.lines.length : Int)) : downS s = showS { s with line := 0, saved := ⟨#[]⟩ } s.saved := by
  unfold downS lineS
  have e : lineText s (s.line - 1) = s.saved := by unfold lineText; rw [if_neg (by omega)]
  rw [if_pos ⟨by omega, hl⟩, e, if_neg (by omega), if_pos (by omega), h0]
  rfl
theorem down_same (s : St) (T : ByteArray) (hT : T = nthLast s.lines (s.line - 1)) (h : ¬ 0 < s.line ∨ ¬ s.line ≤ (s.lines.length : Int) ∨ (1 < s.line ∧ (T.size : Int) > 4096)) : downS s = s := by
  unfold downS
  split
  · rename_i h2
    rcases h with h | h | ⟨h3, h⟩
    · exact absurd h2.1 h
    · exact absurd h2.2 h
    · unfold lineS
      have e : lineText s (s.line - 1) = T := by unfold lineText; rw [if_pos (by omega), hT]
      rw [e, if_pos h]
  · rfl

set_option maxHeartbeats 16000000 in
set_option maxRecDepth 100000 in
theorem rdown_calls (w : World) (P : Nat → Prop) (s : St) (Al : Option Addr) (cl : Nat) (v : Value) (hv : EdV w P s v) (ok : OkS s) (hsv : s.saved.size ≤ 4096) (hC : Kd.C Kd.string w Al s.lines.length s.lines) :
    Calls Try.prog 54 #[v, .slice Al s.lines.length cl] w fun e w' => ∃ v', e = .returned v' ∧ EdV w' (fun k => P k ∨ w.heap.size ≤ k) (downS s) v' ∧ Below w.heap.size w w' := by
  have hvo := hv.old
  obtain ⟨P0, hP0⟩ : ∃ Q : Nat → Prop, Q = fun k => P k ∧ k < w.heap.size := ⟨_, rfl⟩
  rw [← hP0] at hvo
  have hp1 : ∀ k, P0 k → P k ∧ k < w.heap.size := by intro k hk; rw [hP0] at hk; exact hk
  clear hP0
  obtain ⟨Ak, Au, Ar, ck, cu, cr, rfl, v1, v2, v3⟩ := hvo
  have hu27 := Try.underlying27
  have hu23 := Try.underlying23
  obtain ⟨w1, hw1⟩ : ∃ z, z = (w.alloc (.cells #[.string s.text, .int .i64 s.pos, .int .i64 s.mark, .slice Ak s.kills.length ck, .slice Au s.undo.length cu, .slice Ar s.redo.length cr, .string s.keys, .int .i64 s.last, .int .i64 s.line, .string s.saved] 27)).alloc (.cells #[.string ⟨#[]⟩, .int .i64 0, .int .i64 0, .slice none 0 0, .slice none 0 0, .slice none 0 0, .string ⟨#[]⟩, .int .i64 0, .int .i64 0, .string ⟨#[]⟩] 27) := ⟨_, rfl⟩
  obtain ⟨b1, b2, b3, b4⟩ := box2 w #[.string s.text, .int .i64 s.pos, .int .i64 s.mark, .slice Ak s.kills.length ck, .slice Au s.undo.length cu, .slice Ar s.redo.length cr, .string s.keys, .int .i64 s.last, .int .i64 s.line, .string s.saved] #[.string ⟨#[]⟩, .int .i64 0, .int .i64 0, .slice none 0 0, .slice none 0 0, .slice none 0 0, .string ⟨#[]⟩, .int .i64 0, .int .i64 0, .string ⟨#[]⟩] 27 27
  rw [← hw1] at b1 b2 b3 b4
  have HE := Aside0.mk b1
  have HR := Aside0.mk b2
  have HB1 := Aside0.mk b3
  have HSZ := Aside0.mk b4
  have HP1 := Aside0.mk hp1
  have HW1 := Aside0.mk hw1
  have HV := Aside0.mk (show EdV w1 P0 s (edV s (.slice Ak s.kills.length ck) (.slice Au s.undo.length cu) (.slice Ar s.redo.length cr)) from ⟨Ak, Au, Ar, ck, cu, cr, rfl, Kd.V_below v1 b3, Kd.V_below v2 b3, Kd.V_below v3 b3⟩)
  have K1 := Aside0.mk (Kd.V_below v1 b3)
  have K2 := Aside0.mk (Kd.V_below v2 b3)
  have K3 := Aside0.mk (Kd.V_below v3 b3)
  unfold edV at HV hv ⊢
  obtain ⟨d0, d1, d2, d3, d4, d5, d6, d7, d8, d9⟩ := Box.cells (s := s) b1
  clear hv v1 v2 v3 hw1 b1 b2 b3 b4 hp1
  clear d0 d1 d2 d3 d4 d5 d6 d7 d8 d9
  have hl0 := ok.line0
  have hl1 := ok.line1
  have hln := ok.lines
  have KC := Aside0.mk (Kd.C_below hC HB1.out)
  obtain ⟨T, hT⟩ : ∃ z, z = nthLast s.lines (s.line - 1) := ⟨_, rfl⟩
  by_cases c0 : s.line = 0
  · rw [down_same s T hT (.inl (by omega))]
    have g0 : (s.line == 0) = true := beq_iff_eq.mpr c0
    clear hT hC ok c0
    go_enter Try.func54, Try.ntmps54
    go_upto_region 1 with (fail)
    rw [← HW1.out]
    have hqe := blk_frozen HE.out
    obtain ⟨d0, d1, d2, d3, d4, d5, d6, d7, d8, d9⟩ := Box.cells (s := s) HE.out
    have hqr := blk_frozen HR.out
    obtain ⟨r0, r1, r2, r3, r4, r5, r6, r7, r8, r9⟩ := ten_cells HR.out
    go_wp2_with (fail)
    obtain ⟨y1, y2, y3⟩ := put_edV (w := w) (s := s) (rb := w.heap.size + 1) K1.out K2.out K3.out (fun k hk => by have := (HP1.out k hk).2; omega) HR.out HB1.out (by omega)
    refine bodyPost_ret (results_cell_row rfl _ _ (w.heap.size + 1) 27 _ (0, 0) _ rfl y1 hu27 rfl (by first | rfl | decide)) rfl ?_
    exact ⟨_, rfl, y2.mono (fun k hk => .inl (HP1.out k hk).1), y3⟩
  have g0 : (s.line == 0) = false := beq_eq_false_iff_ne.mpr c0
  by_cases c1 : s.line ≤ (s.lines.length : Int)
  · have g1 : decide ((s.lines.length : Int) < s.line) = false := decide_eq_false (by omega)
    by_cases c2 : 1 < s.line
    · have hcw := KC.out
      rcases Al with _ | ad
      · obtain ⟨ad, _, ha, _⟩ := Kd.C_get hcw ByteArray.empty 0 (by omega) (by omega)
        cases ha
      have hcell := Kd.foot_string hcw ((s.lines.length : Int) - s.line + 1) (by omega) (by omega)
      rw [show rdOf ByteArray.empty s.lines ((s.lines.length : Int) - s.line + 1) = T by rw [hT, nthLast]; congr 1; omega] at hcell
      have g2 : decide (1 < s.line) = true := decide_eq_true c2
      by_cases c3 : (T.size : Int) > 4096
      · rw [down_same s T hT (.inr (.inr ⟨c2, c3⟩))]
        have g3 : decide (4096 < (T.size : Int)) = true := decide_eq_true c3
        have g3' : decide (4096 < T.size) = true := decide_eq_true (by omega)
        clear hcw hT hC ok c3
        go_enter Try.func54, Try.ntmps54
        go_upto_region 1 with (fail)
        rw [← HW1.out]
        have hqe := blk_frozen HE.out
        obtain ⟨d0, d1, d2, d3, d4, d5, d6, d7, d8, d9⟩ := Box.cells (s := s) HE.out
        have hqr := blk_frozen HR.out
        obtain ⟨r0, r1, r2, r3, r4, r5, r6, r7, r8, r9⟩ := ten_cells HR.out
        go_wp2_with (fail)
        obtain ⟨y1, y2, y3⟩ := put_edV (w := w) (s := s) (rb := w.heap.size + 1) K1.out K2.out K3.out (fun k hk => by have := (HP1.out k hk).2; omega) HR.out HB1.out (by omega)
        refine bodyPost_ret (results_cell_row rfl _ _ (w.heap.size + 1) 27 _ (0, 0) _ rfl y1 hu27 rfl (by first | rfl | decide)) rfl ?_
        exact ⟨_, rfl, y2.mono (fun k hk => .inl (HP1.out k hk).1), y3⟩
      · rw [down_more s T c2 hT c3 c1]
        have g3 : decide (4096 < (T.size : Int)) = false := decide_eq_false c3
        have g3' : decide (4096 < T.size) = false := decide_eq_false (by omega)
        obtain ⟨S, hS⟩ : ∃ z, z = showS { s with line := s.line - 1 } T := ⟨_, rfl⟩
        rw [← hS]
        have HS := Aside0.mk hS
        clear hcw hT hC ok c3 hS
        go_enter Try.func54, Try.ntmps54
        go_upto_region 1 with (fail)
        rw [← HW1.out]
        have hqe := blk_frozen HE.out
        obtain ⟨d0, d1, d2, d3, d4, d5, d6, d7, d8, d9⟩ := Box.cells (s := s) HE.out
        have hqr := blk_frozen HR.out
        obtain ⟨r0, r1, r2, r3, r4, r5, r6, r7, r8, r9⟩ := ten_cells HR.out
        obtain ⟨wx, hwx⟩ : ∃ z, z = (w1.setCell ⟨w.heap.size, 8, none⟩ (.int .i64 (s.line - 1))) := ⟨_, rfl⟩
        have hszx : wx.heap.size = w.heap.size + 1 + 1 := by rw [hwx]; simp [World.setCell]; exact HSZ.out
        have HEX := Aside0.mk (show wx.heap[w.heap.size]? = some (.cells #[.string s.text, .int .i64 s.pos, .int .i64 s.mark, .slice Ak s.kills.length ck, .slice Au s.undo.length cu, .slice Ar s.redo.length cr, .string s.keys, .int .i64 s.last, .int .i64 (s.line - 1), .string s.saved] 27 (0, 0)) from by rw [hwx]; exact (blk_put (cs' := #[.string s.text, .int .i64 s.pos, .int .i64 s.mark, .slice Ak s.kills.length ck, .slice Au s.undo.length cu, .slice Ar s.redo.length cr, .string s.keys, .int .i64 s.last, .int .i64 (s.line - 1), .string s.saved]) HE.out 8 (.int .i64 (s.line - 1)) rfl))
        have HRX := Aside0.mk (show wx.heap[w.heap.size + 1]? = some (.cells #[.string ⟨#[]⟩, .int .i64 0, .int .i64 0, .slice none 0 0, .slice none 0 0, .slice none 0 0, .string ⟨#[]⟩, .int .i64 0, .int .i64 0, .string ⟨#[]⟩] 27 (0, 0)) from by rw [hwx]; exact (blk_far HR.out (p := ⟨w.heap.size, 8, none⟩) (by simp) _))
        have HBX := Aside0.mk (show Below w.heap.size w wx from by rw [hwx]; exact (below_set HB1.out (Nat.le_refl _)))
        have XV := Aside0.mk (show EdV wx P0 { s with line := s.line - 1 } (.agg #[.string s.text, .int .i64 s.pos, .int .i64 s.mark, .slice Ak s.kills.length ck, .slice Au s.undo.length cu, .slice Ar s.redo.length cr, .string s.keys, .int .i64 s.last, .int .i64 (s.line - 1), .string s.saved]) from ⟨_, _, _, _, _, _, rfl, (by rw [hwx]; exact (Kd.V_far K1.out (p := ⟨w.heap.size, 8, none⟩) (fun k hk => by have := (HP1.out k hk).2; simp; omega) _)), (by rw [hwx]; exact (Kd.V_far K2.out (p := ⟨w.heap.size, 8, none⟩) (fun k hk => by have := (HP1.out k hk).2; simp; omega) _)), (by rw [hwx]; exact (Kd.V_far K3.out (p := ⟨w.heap.size, 8, none⟩) (fun k hk => by have := (HP1.out k hk).2; simp; omega) _))⟩)
        have HSZX := Aside0.mk hszx
        have HWX := Aside0.mk hwx
        clear hwx hszx
        go_upto_region 8 with (fail)
        rw [← HWX.out]
        clear hqe hqr hcell d0 d1 d2 d3 d4 d5 d6 d7 d8 d9 r0 r1 r2 r3 r4 r5 r6 r7 r8 r9
        obtain ⟨d0, d1, d2, d3, d4, d5, d6, d7, d8, d9⟩ := ten_cells HEX.out
        go_wp2_with (first | (go_at_call 67; refine (rshow_calls (wx) P0 { s with line := s.line - 1 } T _ (XV.out.below (Below.refl wx.heap.size wx))).mono ?_; rintro e w4 ⟨v4, rfl, hv4, hb⟩; have hbl := below_step (Below.refl wx.heap.size wx) hb; have hv5 : EdV w4 (fun k => P0 k ∨ (wx).heap.size ≤ k) S v4 := (by rw [HS.out]; exact hv4); have HR4 := Aside0.mk (blk_below HRX.out hbl); have HBL := Aside0.mk hbl; have hqr := blk_frozen HR4.out; obtain ⟨r0, r1, r2, r3, r4, r5, r6, r7, r8, r9⟩ := ten_cells HR4.out; obtain ⟨Ak4, Au4, Ar4, ck4, cu4, cr4, rfl, g1, g2, g3⟩ := hv5.opn; have G1 := Aside0.mk g1; have G2 := Aside0.mk g2; have G3 := Aside0.mk g3; clear hv4 hv5 hb hbl g1 g2 g3))
        all_goals
          go_wp2_with (fail)
          obtain ⟨y1, y2, y3⟩ := put_edV (w := w) (s := S) (rb := w.heap.size + 1) G1.out G2.out G3.out (fun k hk => by have h1 := HP1.out k; have h2 := HSZX.out; rcases hk with hk | hk; exact (by have := (h1 hk).2; omega); exact (by have h3 : wx.heap.size ≤ k := hk; omega)) HR4.out (below_step HBX.out HBL.out) (by omega)
          refine bodyPost_ret (results_cell_row rfl _ _ (w.heap.size + 1) 27 _ (0, 0) _ rfl y1 hu27 rfl (by first | rfl | decide)) rfl ?_
          exact ⟨_, rfl, y2.mono (fun k hk => by have h1 := HP1.out k; have h2 := HSZX.out; rcases hk with hk | hk; exact .inl (h1 hk).1; exact .inr (by have h3 : wx.heap.size ≤ k := hk; omega)), y3⟩
    · have c4 : s.line = 1 := by omega
      rw [down_one s c4 hsv c1]
      have g2 : decide (1 < s.line) = false := decide_eq_false c2
      clear hT hC ok c4
      obtain ⟨S, hS⟩ : ∃ z, z = showS { s with line := 0, saved := ⟨#[]⟩ } s.saved := ⟨_, rfl⟩
      rw [← hS]
      have HS := Aside0.mk hS
      clear hS
      go_enter Try.func54, Try.ntmps54
      go_upto_region 1 with (fail)
      rw [← HW1.out]
      have hqe := blk_frozen HE.out
      obtain ⟨d0, d1, d2, d3, d4, d5, d6, d7, d8, d9⟩ := Box.cells (s := s) HE.out
      have hqr := blk_frozen HR.out
      obtain ⟨r0, r1, r2, r3, r4, r5, r6, r7, r8, r9⟩ := ten_cells HR.out
      obtain ⟨wx, hwx⟩ : ∃ z, z = ((w1.setCell ⟨w.heap.size, 8, none⟩ (.int .i64 0)).setCell ⟨w.heap.size, 9, none⟩ (.string ⟨#[]⟩)) := ⟨_, rfl⟩
      have hszx : wx.heap.size = w.heap.size + 1 + 1 := by rw [hwx]; simp [World.setCell]; exact HSZ.out
      have HEX := Aside0.mk (show wx.heap[w.heap.size]? = some (.cells #[.string s.text, .int .i64 s.pos, .int .i64 s.mark, .slice Ak s.kills.length ck, .slice Au s.undo.length cu, .slice Ar s.redo.length cr, .string s.keys, .int .i64 s.last, .int .i64 0, .string ⟨#[]⟩] 27 (0, 0)) from by rw [hwx]; exact (blk_put (cs' := #[.string s.text, .int .i64 s.pos, .int .i64 s.mark, .slice Ak s.kills.length ck, .slice Au s.undo.length cu, .slice Ar s.redo.length cr, .string s.keys, .int .i64 s.last, .int .i64 0, .string ⟨#[]⟩]) (blk_put (cs' := #[.string s.text, .int .i64 s.pos, .int .i64 s.mark, .slice Ak s.kills.length ck, .slice Au s.undo.length cu, .slice Ar s.redo.length cr, .string s.keys, .int .i64 s.last, .int .i64 0, .string s.saved]) HE.out 8 (.int .i64 0) rfl) 9 (.string ⟨#[]⟩) rfl))
      have HRX := Aside0.mk (show wx.heap[w.heap.size + 1]? = some (.cells #[.string ⟨#[]⟩, .int .i64 0, .int .i64 0, .slice none 0 0, .slice none 0 0, .slice none 0 0, .string ⟨#[]⟩, .int .i64 0, .int .i64 0, .string ⟨#[]⟩] 27 (0, 0)) from by rw [hwx]; exact (blk_far (blk_far HR.out (p := ⟨w.heap.size, 8, none⟩) (by simp) _) (p := ⟨w.heap.size, 9, none⟩) (by simp) _))
      have HBX := Aside0.mk (show Below w.heap.size w wx from by rw [hwx]; exact (below_set (below_set HB1.out (Nat.le_refl _)) (Nat.le_refl _)))
      have XV := Aside0.mk (show EdV wx P0 { s with line := 0, saved := ⟨#[]⟩ } (.agg #[.string s.text, .int .i64 s.pos, .int .i64 s.mark, .slice Ak s.kills.length ck, .slice Au s.undo.length cu, .slice Ar s.redo.length cr, .string s.keys, .int .i64 s.last, .int .i64 0, .string ⟨#[]⟩]) from ⟨_, _, _, _, _, _, rfl, (by rw [hwx]; exact (Kd.V_far (Kd.V_far K1.out (p := ⟨w.heap.size, 8, none⟩) (fun k hk => by have := (HP1.out k hk).2; simp; omega) _) (p := ⟨w.heap.size, 9, none⟩) (fun k hk => by have := (HP1.out k hk).2; simp; omega) _)), (by rw [hwx]; exact (Kd.V_far (Kd.V_far K2.out (p := ⟨w.heap.size, 8, none⟩) (fun k hk => by have := (HP1.out k hk).2; simp; omega) _) (p := ⟨w.heap.size, 9, none⟩) (fun k hk => by have := (HP1.out k hk).2; simp; omega) _)), (by rw [hwx]; exact (Kd.V_far (Kd.V_far K3.out (p := ⟨w.heap.size, 8, none⟩) (fun k hk => by have := (HP1.out k hk).2; simp; omega) _) (p := ⟨w.heap.size, 9, none⟩) (fun k hk => by have := (HP1.out k hk).2; simp; omega) _))⟩)
      have HSZX := Aside0.mk hszx
      have HWX := Aside0.mk hwx
      clear hwx hszx
      go_upto_region 11 with (fail)
      rw [← HWX.out]
      clear hqe hqr d0 d1 d2 d3 d4 d5 d6 d7 d8 d9 r0 r1 r2 r3 r4 r5 r6 r7 r8 r9
      obtain ⟨d0, d1, d2, d3, d4, d5, d6, d7, d8, d9⟩ := ten_cells HEX.out
      go_wp2_with (first | (go_at_call 67; refine (rshow_calls (wx) P0 { s with line := 0, saved := ⟨#[]⟩ } s.saved _ (XV.out.below (Below.refl wx.heap.size wx))).mono ?_; rintro e w4 ⟨v4, rfl, hv4, hb⟩; have hbl := below_step (Below.refl wx.heap.size wx) hb; have hv5 : EdV w4 (fun k => P0 k ∨ (wx).heap.size ≤ k) S v4 := (by rw [HS.out]; exact hv4); have HR4 := Aside0.mk (blk_below HRX.out hbl); have HBL := Aside0.mk hbl; have hqr := blk_frozen HR4.out; obtain ⟨r0, r1, r2, r3, r4, r5, r6, r7, r8, r9⟩ := ten_cells HR4.out; obtain ⟨Ak4, Au4, Ar4, ck4, cu4, cr4, rfl, g1, g2, g3⟩ := hv5.opn; have G1 := Aside0.mk g1; have G2 := Aside0.mk g2; have G3 := Aside0.mk g3; clear hv4 hv5 hb hbl g1 g2 g3))
      all_goals
        go_wp2_with (fail)
        obtain ⟨y1, y2, y3⟩ := put_edV (w := w) (s := S) (rb := w.heap.size + 1) G1.out G2.out G3.out (fun k hk => by have h1 := HP1.out k; have h2 := HSZX.out; rcases hk with hk | hk; exact (by have := (h1 hk).2; omega); exact (by have h3 : wx.heap.size ≤ k := hk; omega)) HR4.out (below_step HBX.out HBL.out) (by omega)
        refine bodyPost_ret (results_cell_row rfl _ _ (w.heap.size + 1) 27 _ (0, 0) _ rfl y1 hu27 rfl (by first | rfl | decide)) rfl ?_
        exact ⟨_, rfl, y2.mono (fun k hk => by have h1 := HP1.out k; have h2 := HSZX.out; rcases hk with hk | hk; exact .inl (h1 hk).1; exact .inr (by have h3 : wx.heap.size ≤ k := hk; omega)), y3⟩
  · rw [down_same s T hT (.inr (.inl c1))]
    have g1 : decide ((s.lines.length : Int) < s.line) = true := decide_eq_true (by omega)
    clear hT hC ok c1
    go_enter Try.func54, Try.ntmps54
    go_upto_region 1 with (fail)
    rw [← HW1.out]
    have hqe := blk_frozen HE.out
    obtain ⟨d0, d1, d2, d3, d4, d5, d6, d7, d8, d9⟩ := Box.cells (s := s) HE.out
    have hqr := blk_frozen HR.out
    obtain ⟨r0, r1, r2, r3, r4, r5, r6, r7, r8, r9⟩ := ten_cells HR.out
    go_wp2_with (fail)
    obtain ⟨y1, y2, y3⟩ := put_edV (w := w) (s := s) (rb := w.heap.size + 1) K1.out K2.out K3.out (fun k hk => by have := (HP1.out k hk).2; omega) HR.out HB1.out (by omega)
    refine bodyPost_ret (results_cell_row rfl _ _ (w.heap.size + 1) 27 _ (0, 0) _ rfl y1 hu27 rfl (by first | rfl | decide)) rfl ?_
    exact ⟨_, rfl, y2.mono (fun k hk => .inl (HP1.out k hk).1), y3⟩
end Go.Proofs.Ytlbbjdggebgabaa.P
end

section
/- The reference's move. -/
namespace Go.Proofs.Ytlbbjdggebgabaa.P
open Go.RowKit Go.Proofs.YtlbbjdggebgabaaW.PrintWords Go.Proofs.YtlbbjdggebgabaaW.PrintLast Go.Proofs.YtlbbjdggebgabaaW.PrintMore
set_option linter.unusedVariables false
set_option linter.unusedSimpArgs false

set_option maxHeartbeats 16000000 in
set_option maxRecDepth 100000 in
theorem rmove_3a (w : World) (P : Nat → Prop) (s : St) (v : Value) (hv : EdV w P s v) (h0 : 0 ≤ s.pos) (h1 : s.pos ≤ s.text.size) (hs : s.text.size ≤ 1000000) (hx : 0 < s.pos - 1) :
    Calls Try.prog 31 #[v, .int .i64 3] w fun e w' => ∃ v', e = .returned v' ∧ EdV w' (fun k => P k ∨ w.heap.size ≤ k) { s with pos := s.pos - 1 } v' ∧ Below w.heap.size w w' := by
  have hvo := hv.old
  obtain ⟨P0, hP0⟩ : ∃ Q : Nat → Prop, Q = fun k => P k ∧ k < w.heap.size := ⟨_, rfl⟩
  rw [← hP0] at hvo
  have hp1 : ∀ k, P0 k → P k ∧ k < w.heap.size := by intro k hk; rw [hP0] at hk; exact hk
  clear hP0
  obtain ⟨Ak, Au, Ar, ck, cu, cr, rfl, v1, v2, v3⟩ := hvo
  have hu27 := Try.underlying27
  have hu23 := Try.underlying23
  obtain ⟨w1, hw1⟩ : ∃ z, z = (w.alloc (.cells #[.string s.text, .int .i64 s.pos, .int .i64 s.mark, .slice Ak s.kills.length ck, .slice Au s.undo.length cu, .slice Ar s.redo.length cr, .string s.keys, .int .i64 s.last, .int .i64 s.line, .string s.saved] 27)).alloc (.cells #[.string ⟨#[]⟩, .int .i64 0, .int .i64 0, .slice none 0 0, .slice none 0 0, .slice none 0 0, .string ⟨#[]⟩, .int .i64 0, .int .i64 0, .string ⟨#[]⟩] 27) := ⟨_, rfl⟩
  obtain ⟨b1, b2, b3, b4⟩ := box2 w #[.string s.text, .int .i64 s.pos, .int .i64 s.mark, .slice Ak s.kills.length ck, .slice Au s.undo.length cu, .slice Ar s.redo.length cr, .string s.keys, .int .i64 s.last, .int .i64 s.line, .string s.saved] #[.string ⟨#[]⟩, .int .i64 0, .int .i64 0, .slice none 0 0, .slice none 0 0, .slice none 0 0, .string ⟨#[]⟩, .int .i64 0, .int .i64 0, .string ⟨#[]⟩] 27 27
  rw [← hw1] at b1 b2 b3 b4
  have HE := Aside0.mk b1
  have HR := Aside0.mk b2
  have HB1 := Aside0.mk b3
  have HSZ := Aside0.mk b4
  have HP1 := Aside0.mk hp1
  have HW1 := Aside0.mk hw1
  have HV := Aside0.mk (show EdV w1 P0 s (edV s (.slice Ak s.kills.length ck) (.slice Au s.undo.length cu) (.slice Ar s.redo.length cr)) from ⟨Ak, Au, Ar, ck, cu, cr, rfl, Kd.V_below v1 b3, Kd.V_below v2 b3, Kd.V_below v3 b3⟩)
  have K1 := Aside0.mk (Kd.V_below v1 b3)
  have K2 := Aside0.mk (Kd.V_below v2 b3)
  have K3 := Aside0.mk (Kd.V_below v3 b3)
  unfold edV at HV hv ⊢
  obtain ⟨d0, d1, d2, d3, d4, d5, d6, d7, d8, d9⟩ := Box.cells (s := s) b1
  clear hv v1 v2 v3 hw1 b1 b2 b3 b4 hp1
  clear d0 d1 d2 d3 d4 d5 d6 d7 d8 d9
  go_enter Try.func31, Try.ntmps31
  go_upto_region 1 with (fail)
  rw [← HW1.out]
  have hqe := blk_frozen HE.out
  obtain ⟨d0, d1, d2, d3, d4, d5, d6, d7, d8, d9⟩ := Box.cells (s := s) HE.out
  have hqr := blk_frozen HR.out
  obtain ⟨r0, r1, r2, r3, r4, r5, r6, r7, r8, r9⟩ := ten_cells HR.out
  obtain ⟨wx, hwx⟩ : ∃ z, z = (w1.setCell ⟨w.heap.size, 1, none⟩ (.int .i64 (s.pos - 1))) := ⟨_, rfl⟩
  have HEX := Aside0.mk (show wx.heap[w.heap.size]? = some (.cells #[.string s.text, .int .i64 (s.pos - 1), .int .i64 s.mark, .slice Ak s.kills.length ck, .slice Au s.undo.length cu, .slice Ar s.redo.length cr, .string s.keys, .int .i64 s.last, .int .i64 s.line, .string s.saved] 27 (0, 0)) from by rw [hwx]; exact (blk_put (cs' := #[.string s.text, .int .i64 (s.pos - 1), .int .i64 s.mark, .slice Ak s.kills.length ck, .slice Au s.undo.length cu, .slice Ar s.redo.length cr, .string s.keys, .int .i64 s.last, .int .i64 s.line, .string s.saved]) HE.out 1 (.int .i64 (s.pos - 1)) rfl))
  have HRX := Aside0.mk (show wx.heap[w.heap.size + 1]? = some (.cells #[.string ⟨#[]⟩, .int .i64 0, .int .i64 0, .slice none 0 0, .slice none 0 0, .slice none 0 0, .string ⟨#[]⟩, .int .i64 0, .int .i64 0, .string ⟨#[]⟩] 27 (0, 0)) from by rw [hwx]; exact (blk_far HR.out (p := ⟨w.heap.size, 1, none⟩) (by simp) _))
  have HBX := Aside0.mk (show Below w.heap.size w wx from by rw [hwx]; exact (below_set HB1.out (Nat.le_refl _)))
  have X1 := Aside0.mk (show Kd.V Kd.string 9 wx 0 P0 _ _ from by rw [hwx]; exact (Kd.V_far K1.out (p := ⟨w.heap.size, 1, none⟩) (fun k hk => by have := (HP1.out k hk).2; simp; omega) _))
  have X2 := Aside0.mk (show Kd.V k23 23 wx 0 P0 _ _ from by rw [hwx]; exact (Kd.V_far K2.out (p := ⟨w.heap.size, 1, none⟩) (fun k hk => by have := (HP1.out k hk).2; simp; omega) _))
  have X3 := Aside0.mk (show Kd.V k23 23 wx 0 P0 _ _ from by rw [hwx]; exact (Kd.V_far K3.out (p := ⟨w.heap.size, 1, none⟩) (fun k hk => by have := (HP1.out k hk).2; simp; omega) _))
  have HWX := Aside0.mk hwx
  clear hwx
  go_upto_region 18 with (fail)
  rw [← HWX.out]
  clear hqe hqr d0 d1 d2 d3 d4 d5 d6 d7 d8 d9 r0 r1 r2 r3 r4 r5 r6 r7 r8 r9
  obtain ⟨d0, d1, d2, d3, d4, d5, d6, d7, d8, d9⟩ := ten_cells HEX.out
  have hqr := blk_frozen HRX.out
  obtain ⟨r0, r1, r2, r3, r4, r5, r6, r7, r8, r9⟩ := ten_cells HRX.out
  go_wp2_with (fail)
  obtain ⟨y1, y2, y3⟩ := put_edV (w := w) (W := wx) (s := { s with pos := s.pos - 1 }) (rb := w.heap.size + 1) X1.out X2.out X3.out (fun k hk => by have := (HP1.out k hk).2; omega) HRX.out HBX.out (by omega)
  refine bodyPost_ret (results_cell_row rfl _ _ (w.heap.size + 1) 27 _ (0, 0) _ rfl y1 hu27 rfl (by first | rfl | decide)) rfl ?_
  exact ⟨_, rfl, y2.mono (fun k hk => .inl (HP1.out k hk).1), y3⟩

set_option maxHeartbeats 16000000 in
set_option maxRecDepth 100000 in
theorem rmove_3b (w : World) (P : Nat → Prop) (s : St) (v : Value) (hv : EdV w P s v) (h0 : 0 ≤ s.pos) (h1 : s.pos ≤ s.text.size) (hs : s.text.size ≤ 1000000) (hx : ¬ 0 < s.pos - 1) :
    Calls Try.prog 31 #[v, .int .i64 3] w fun e w' => ∃ v', e = .returned v' ∧ EdV w' (fun k => P k ∨ w.heap.size ≤ k) { s with pos := 0 } v' ∧ Below w.heap.size w w' := by
  have hvo := hv.old
  obtain ⟨P0, hP0⟩ : ∃ Q : Nat → Prop, Q = fun k => P k ∧ k < w.heap.size := ⟨_, rfl⟩
  rw [← hP0] at hvo
  have hp1 : ∀ k, P0 k → P k ∧ k < w.heap.size := by intro k hk; rw [hP0] at hk; exact hk
  clear hP0
  obtain ⟨Ak, Au, Ar, ck, cu, cr, rfl, v1, v2, v3⟩ := hvo
  have hu27 := Try.underlying27
  have hu23 := Try.underlying23
  obtain ⟨w1, hw1⟩ : ∃ z, z = (w.alloc (.cells #[.string s.text, .int .i64 s.pos, .int .i64 s.mark, .slice Ak s.kills.length ck, .slice Au s.undo.length cu, .slice Ar s.redo.length cr, .string s.keys, .int .i64 s.last, .int .i64 s.line, .string s.saved] 27)).alloc (.cells #[.string ⟨#[]⟩, .int .i64 0, .int .i64 0, .slice none 0 0, .slice none 0 0, .slice none 0 0, .string ⟨#[]⟩, .int .i64 0, .int .i64 0, .string ⟨#[]⟩] 27) := ⟨_, rfl⟩
  obtain ⟨b1, b2, b3, b4⟩ := box2 w #[.string s.text, .int .i64 s.pos, .int .i64 s.mark, .slice Ak s.kills.length ck, .slice Au s.undo.length cu, .slice Ar s.redo.length cr, .string s.keys, .int .i64 s.last, .int .i64 s.line, .string s.saved] #[.string ⟨#[]⟩, .int .i64 0, .int .i64 0, .slice none 0 0, .slice none 0 0, .slice none 0 0, .string ⟨#[]⟩, .int .i64 0, .int .i64 0, .string ⟨#[]⟩] 27 27
  rw [← hw1] at b1 b2 b3 b4
  have HE := Aside0.mk b1
  have HR := Aside0.mk b2
  have HB1 := Aside0.mk b3
  have HSZ := Aside0.mk b4
  have HP1 := Aside0.mk hp1
  have HW1 := Aside0.mk hw1
  have HV := Aside0.mk (show EdV w1 P0 s (edV s (.slice Ak s.kills.length ck) (.slice Au s.undo.length cu) (.slice Ar s.redo.length cr)) from ⟨Ak, Au, Ar, ck, cu, cr, rfl, Kd.V_below v1 b3, Kd.V_below v2 b3, Kd.V_below v3 b3⟩)
  have K1 := Aside0.mk (Kd.V_below v1 b3)
  have K2 := Aside0.mk (Kd.V_below v2 b3)
  have K3 := Aside0.mk (Kd.V_below v3 b3)
  unfold edV at HV hv ⊢
  obtain ⟨d0, d1, d2, d3, d4, d5, d6, d7, d8, d9⟩ := Box.cells (s := s) b1
  clear hv v1 v2 v3 hw1 b1 b2 b3 b4 hp1
  clear d0 d1 d2 d3 d4 d5 d6 d7 d8 d9
  go_enter Try.func31, Try.ntmps31
  go_upto_region 1 with (fail)
  rw [← HW1.out]
  have hqe := blk_frozen HE.out
  obtain ⟨d0, d1, d2, d3, d4, d5, d6, d7, d8, d9⟩ := Box.cells (s := s) HE.out
  have hqr := blk_frozen HR.out
  obtain ⟨r0, r1, r2, r3, r4, r5, r6, r7, r8, r9⟩ := ten_cells HR.out
  obtain ⟨wx, hwx⟩ : ∃ z, z = (w1.setCell ⟨w.heap.size, 1, none⟩ (.int .i64 (0))) := ⟨_, rfl⟩
  have HEX := Aside0.mk (show wx.heap[w.heap.size]? = some (.cells #[.string s.text, .int .i64 (0), .int .i64 s.mark, .slice Ak s.kills.length ck, .slice Au s.undo.length cu, .slice Ar s.redo.length cr, .string s.keys, .int .i64 s.last, .int .i64 s.line, .string s.saved] 27 (0, 0)) from by rw [hwx]; exact (blk_put (cs' := #[.string s.text, .int .i64 (0), .int .i64 s.mark, .slice Ak s.kills.length ck, .slice Au s.undo.length cu, .slice Ar s.redo.length cr, .string s.keys, .int .i64 s.last, .int .i64 s.line, .string s.saved]) HE.out 1 (.int .i64 (0)) rfl))
  have HRX := Aside0.mk (show wx.heap[w.heap.size + 1]? = some (.cells #[.string ⟨#[]⟩, .int .i64 0, .int .i64 0, .slice none 0 0, .slice none 0 0, .slice none 0 0, .string ⟨#[]⟩, .int .i64 0, .int .i64 0, .string ⟨#[]⟩] 27 (0, 0)) from by rw [hwx]; exact (blk_far HR.out (p := ⟨w.heap.size, 1, none⟩) (by simp) _))
  have HBX := Aside0.mk (show Below w.heap.size w wx from by rw [hwx]; exact (below_set HB1.out (Nat.le_refl _)))
  have X1 := Aside0.mk (show Kd.V Kd.string 9 wx 0 P0 _ _ from by rw [hwx]; exact (Kd.V_far K1.out (p := ⟨w.heap.size, 1, none⟩) (fun k hk => by have := (HP1.out k hk).2; simp; omega) _))
  have X2 := Aside0.mk (show Kd.V k23 23 wx 0 P0 _ _ from by rw [hwx]; exact (Kd.V_far K2.out (p := ⟨w.heap.size, 1, none⟩) (fun k hk => by have := (HP1.out k hk).2; simp; omega) _))
  have X3 := Aside0.mk (show Kd.V k23 23 wx 0 P0 _ _ from by rw [hwx]; exact (Kd.V_far K3.out (p := ⟨w.heap.size, 1, none⟩) (fun k hk => by have := (HP1.out k hk).2; simp; omega) _))
  have HWX := Aside0.mk hwx
  clear hwx
  go_upto_region 18 with (fail)
  rw [← HWX.out]
  clear hqe hqr d0 d1 d2 d3 d4 d5 d6 d7 d8 d9 r0 r1 r2 r3 r4 r5 r6 r7 r8 r9
  obtain ⟨d0, d1, d2, d3, d4, d5, d6, d7, d8, d9⟩ := ten_cells HEX.out
  have hqr := blk_frozen HRX.out
  obtain ⟨r0, r1, r2, r3, r4, r5, r6, r7, r8, r9⟩ := ten_cells HRX.out
  go_wp2_with (fail)
  obtain ⟨y1, y2, y3⟩ := put_edV (w := w) (W := wx) (s := { s with pos := 0 }) (rb := w.heap.size + 1) X1.out X2.out X3.out (fun k hk => by have := (HP1.out k hk).2; omega) HRX.out HBX.out (by omega)
  refine bodyPost_ret (results_cell_row rfl _ _ (w.heap.size + 1) 27 _ (0, 0) _ rfl y1 hu27 rfl (by first | rfl | decide)) rfl ?_
  exact ⟨_, rfl, y2.mono (fun k hk => .inl (HP1.out k hk).1), y3⟩

set_option maxHeartbeats 16000000 in
set_option maxRecDepth 100000 in
theorem rmove_4a (w : World) (P : Nat → Prop) (s : St) (v : Value) (hv : EdV w P s v) (h0 : 0 ≤ s.pos) (h1 : s.pos ≤ s.text.size) (hs : s.text.size ≤ 1000000) (hx : s.pos + 1 < (s.text.size : Int)) :
    Calls Try.prog 31 #[v, .int .i64 4] w fun e w' => ∃ v', e = .returned v' ∧ EdV w' (fun k => P k ∨ w.heap.size ≤ k) { s with pos := s.pos + 1 } v' ∧ Below w.heap.size w w' := by
  have hvo := hv.old
  obtain ⟨P0, hP0⟩ : ∃ Q : Nat → Prop, Q = fun k => P k ∧ k < w.heap.size := ⟨_, rfl⟩
  rw [← hP0] at hvo
  have hp1 : ∀ k, P0 k → P k ∧ k < w.heap.size := by intro k hk; rw [hP0] at hk; exact hk
  clear hP0
  obtain ⟨Ak, Au, Ar, ck, cu, cr, rfl, v1, v2, v3⟩ := hvo
  have hu27 := Try.underlying27
  have hu23 := Try.underlying23
  obtain ⟨w1, hw1⟩ : ∃ z, z = (w.alloc (.cells #[.string s.text, .int .i64 s.pos, .int .i64 s.mark, .slice Ak s.kills.length ck, .slice Au s.undo.length cu, .slice Ar s.redo.length cr, .string s.keys, .int .i64 s.last, .int .i64 s.line, .string s.saved] 27)).alloc (.cells #[.string ⟨#[]⟩, .int .i64 0, .int .i64 0, .slice none 0 0, .slice none 0 0, .slice none 0 0, .string ⟨#[]⟩, .int .i64 0, .int .i64 0, .string ⟨#[]⟩] 27) := ⟨_, rfl⟩
  obtain ⟨b1, b2, b3, b4⟩ := box2 w #[.string s.text, .int .i64 s.pos, .int .i64 s.mark, .slice Ak s.kills.length ck, .slice Au s.undo.length cu, .slice Ar s.redo.length cr, .string s.keys, .int .i64 s.last, .int .i64 s.line, .string s.saved] #[.string ⟨#[]⟩, .int .i64 0, .int .i64 0, .slice none 0 0, .slice none 0 0, .slice none 0 0, .string ⟨#[]⟩, .int .i64 0, .int .i64 0, .string ⟨#[]⟩] 27 27
  rw [← hw1] at b1 b2 b3 b4
  have HE := Aside0.mk b1
  have HR := Aside0.mk b2
  have HB1 := Aside0.mk b3
  have HSZ := Aside0.mk b4
  have HP1 := Aside0.mk hp1
  have HW1 := Aside0.mk hw1
  have HV := Aside0.mk (show EdV w1 P0 s (edV s (.slice Ak s.kills.length ck) (.slice Au s.undo.length cu) (.slice Ar s.redo.length cr)) from ⟨Ak, Au, Ar, ck, cu, cr, rfl, Kd.V_below v1 b3, Kd.V_below v2 b3, Kd.V_below v3 b3⟩)
  have K1 := Aside0.mk (Kd.V_below v1 b3)
  have K2 := Aside0.mk (Kd.V_below v2 b3)
  have K3 := Aside0.mk (Kd.V_below v3 b3)
  unfold edV at HV hv ⊢
  obtain ⟨d0, d1, d2, d3, d4, d5, d6, d7, d8, d9⟩ := Box.cells (s := s) b1
  clear hv v1 v2 v3 hw1 b1 b2 b3 b4 hp1
  clear d0 d1 d2 d3 d4 d5 d6 d7 d8 d9
  go_enter Try.func31, Try.ntmps31
  go_upto_region 1 with (fail)
  rw [← HW1.out]
  have hqe := blk_frozen HE.out
  obtain ⟨d0, d1, d2, d3, d4, d5, d6, d7, d8, d9⟩ := Box.cells (s := s) HE.out
  have hqr := blk_frozen HR.out
  obtain ⟨r0, r1, r2, r3, r4, r5, r6, r7, r8, r9⟩ := ten_cells HR.out
  obtain ⟨wx, hwx⟩ : ∃ z, z = (w1.setCell ⟨w.heap.size, 1, none⟩ (.int .i64 (s.pos + 1))) := ⟨_, rfl⟩
  have HEX := Aside0.mk (show wx.heap[w.heap.size]? = some (.cells #[.string s.text, .int .i64 (s.pos + 1), .int .i64 s.mark, .slice Ak s.kills.length ck, .slice Au s.undo.length cu, .slice Ar s.redo.length cr, .string s.keys, .int .i64 s.last, .int .i64 s.line, .string s.saved] 27 (0, 0)) from by rw [hwx]; exact (blk_put (cs' := #[.string s.text, .int .i64 (s.pos + 1), .int .i64 s.mark, .slice Ak s.kills.length ck, .slice Au s.undo.length cu, .slice Ar s.redo.length cr, .string s.keys, .int .i64 s.last, .int .i64 s.line, .string s.saved]) HE.out 1 (.int .i64 (s.pos + 1)) rfl))
  have HRX := Aside0.mk (show wx.heap[w.heap.size + 1]? = some (.cells #[.string ⟨#[]⟩, .int .i64 0, .int .i64 0, .slice none 0 0, .slice none 0 0, .slice none 0 0, .string ⟨#[]⟩, .int .i64 0, .int .i64 0, .string ⟨#[]⟩] 27 (0, 0)) from by rw [hwx]; exact (blk_far HR.out (p := ⟨w.heap.size, 1, none⟩) (by simp) _))
  have HBX := Aside0.mk (show Below w.heap.size w wx from by rw [hwx]; exact (below_set HB1.out (Nat.le_refl _)))
  have X1 := Aside0.mk (show Kd.V Kd.string 9 wx 0 P0 _ _ from by rw [hwx]; exact (Kd.V_far K1.out (p := ⟨w.heap.size, 1, none⟩) (fun k hk => by have := (HP1.out k hk).2; simp; omega) _))
  have X2 := Aside0.mk (show Kd.V k23 23 wx 0 P0 _ _ from by rw [hwx]; exact (Kd.V_far K2.out (p := ⟨w.heap.size, 1, none⟩) (fun k hk => by have := (HP1.out k hk).2; simp; omega) _))
  have X3 := Aside0.mk (show Kd.V k23 23 wx 0 P0 _ _ from by rw [hwx]; exact (Kd.V_far K3.out (p := ⟨w.heap.size, 1, none⟩) (fun k hk => by have := (HP1.out k hk).2; simp; omega) _))
  have HWX := Aside0.mk hwx
  clear hwx
  go_upto_region 18 with (fail)
  rw [← HWX.out]
  clear hqe hqr d0 d1 d2 d3 d4 d5 d6 d7 d8 d9 r0 r1 r2 r3 r4 r5 r6 r7 r8 r9
  obtain ⟨d0, d1, d2, d3, d4, d5, d6, d7, d8, d9⟩ := ten_cells HEX.out
  have hqr := blk_frozen HRX.out
  obtain ⟨r0, r1, r2, r3, r4, r5, r6, r7, r8, r9⟩ := ten_cells HRX.out
  go_wp2_with (fail)
  obtain ⟨y1, y2, y3⟩ := put_edV (w := w) (W := wx) (s := { s with pos := s.pos + 1 }) (rb := w.heap.size + 1) X1.out X2.out X3.out (fun k hk => by have := (HP1.out k hk).2; omega) HRX.out HBX.out (by omega)
  refine bodyPost_ret (results_cell_row rfl _ _ (w.heap.size + 1) 27 _ (0, 0) _ rfl y1 hu27 rfl (by first | rfl | decide)) rfl ?_
  exact ⟨_, rfl, y2.mono (fun k hk => .inl (HP1.out k hk).1), y3⟩

set_option maxHeartbeats 16000000 in
set_option maxRecDepth 100000 in
theorem rmove_4b (w : World) (P : Nat → Prop) (s : St) (v : Value) (hv : EdV w P s v) (h0 : 0 ≤ s.pos) (h1 : s.pos ≤ s.text.size) (hs : s.text.size ≤ 1000000) (hx : ¬ s.pos + 1 < (s.text.size : Int)) :
    Calls Try.prog 31 #[v, .int .i64 4] w fun e w' => ∃ v', e = .returned v' ∧ EdV w' (fun k => P k ∨ w.heap.size ≤ k) { s with pos := (s.text.size : Int) } v' ∧ Below w.heap.size w w' := by
  have hvo := hv.old
  obtain ⟨P0, hP0⟩ : ∃ Q : Nat → Prop, Q = fun k => P k ∧ k < w.heap.size := ⟨_, rfl⟩
  rw [← hP0] at hvo
  have hp1 : ∀ k, P0 k → P k ∧ k < w.heap.size := by intro k hk; rw [hP0] at hk; exact hk
  clear hP0
  obtain ⟨Ak, Au, Ar, ck, cu, cr, rfl, v1, v2, v3⟩ := hvo
  have hu27 := Try.underlying27
  have hu23 := Try.underlying23
  obtain ⟨w1, hw1⟩ : ∃ z, z = (w.alloc (.cells #[.string s.text, .int .i64 s.pos, .int .i64 s.mark, .slice Ak s.kills.length ck, .slice Au s.undo.length cu, .slice Ar s.redo.length cr, .string s.keys, .int .i64 s.last, .int .i64 s.line, .string s.saved] 27)).alloc (.cells #[.string ⟨#[]⟩, .int .i64 0, .int .i64 0, .slice none 0 0, .slice none 0 0, .slice none 0 0, .string ⟨#[]⟩, .int .i64 0, .int .i64 0, .string ⟨#[]⟩] 27) := ⟨_, rfl⟩
  obtain ⟨b1, b2, b3, b4⟩ := box2 w #[.string s.text, .int .i64 s.pos, .int .i64 s.mark, .slice Ak s.kills.length ck, .slice Au s.undo.length cu, .slice Ar s.redo.length cr, .string s.keys, .int .i64 s.last, .int .i64 s.line, .string s.saved] #[.string ⟨#[]⟩, .int .i64 0, .int .i64 0, .slice none 0 0, .slice none 0 0, .slice none 0 0, .string ⟨#[]⟩, .int .i64 0, .int .i64 0, .string ⟨#[]⟩] 27 27
  rw [← hw1] at b1 b2 b3 b4
  have HE := Aside0.mk b1
  have HR := Aside0.mk b2
  have HB1 := Aside0.mk b3
  have HSZ := Aside0.mk b4
  have HP1 := Aside0.mk hp1
  have HW1 := Aside0.mk hw1
  have HV := Aside0.mk (show EdV w1 P0 s (edV s (.slice Ak s.kills.length ck) (.slice Au s.undo.length cu) (.slice Ar s.redo.length cr)) from ⟨Ak, Au, Ar, ck, cu, cr, rfl, Kd.V_below v1 b3, Kd.V_below v2 b3, Kd.V_below v3 b3⟩)
  have K1 := Aside0.mk (Kd.V_below v1 b3)
  have K2 := Aside0.mk (Kd.V_below v2 b3)
  have K3 := Aside0.mk (Kd.V_below v3 b3)
  unfold edV at HV hv ⊢
  obtain ⟨d0, d1, d2, d3, d4, d5, d6, d7, d8, d9⟩ := Box.cells (s := s) b1
  clear hv v1 v2 v3 hw1 b1 b2 b3 b4 hp1
  clear d0 d1 d2 d3 d4 d5 d6 d7 d8 d9
  go_enter Try.func31, Try.ntmps31
  go_upto_region 1 with (fail)
  rw [← HW1.out]
  have hqe := blk_frozen HE.out
  obtain ⟨d0, d1, d2, d3, d4, d5, d6, d7, d8, d9⟩ := Box.cells (s := s) HE.out
  have hqr := blk_frozen HR.out
  obtain ⟨r0, r1, r2, r3, r4, r5, r6, r7, r8, r9⟩ := ten_cells HR.out
  obtain ⟨wx, hwx⟩ : ∃ z, z = (w1.setCell ⟨w.heap.size, 1, none⟩ (.int .i64 ((s.text.size : Int)))) := ⟨_, rfl⟩
  have HEX := Aside0.mk (show wx.heap[w.heap.size]? = some (.cells #[.string s.text, .int .i64 ((s.text.size : Int)), .int .i64 s.mark, .slice Ak s.kills.length ck, .slice Au s.undo.length cu, .slice Ar s.redo.length cr, .string s.keys, .int .i64 s.last, .int .i64 s.line, .string s.saved] 27 (0, 0)) from by rw [hwx]; exact (blk_put (cs' := #[.string s.text, .int .i64 ((s.text.size : Int)), .int .i64 s.mark, .slice Ak s.kills.length ck, .slice Au s.undo.length cu, .slice Ar s.redo.length cr, .string s.keys, .int .i64 s.last, .int .i64 s.line, .string s.saved]) HE.out 1 (.int .i64 ((s.text.size : Int))) rfl))
  have HRX := Aside0.mk (show wx.heap[w.heap.size + 1]? = some (.cells #[.string ⟨#[]⟩, .int .i64 0, .int .i64 0, .slice none 0 0, .slice none 0 0, .slice none 0 0, .string ⟨#[]⟩, .int .i64 0, .int .i64 0, .string ⟨#[]⟩] 27 (0, 0)) from by rw [hwx]; exact (blk_far HR.out (p := ⟨w.heap.size, 1, none⟩) (by simp) _))
  have HBX := Aside0.mk (show Below w.heap.size w wx from by rw [hwx]; exact (below_set HB1.out (Nat.le_refl _)))
  have X1 := Aside0.mk (show Kd.V Kd.string 9 wx 0 P0 _ _ from by rw [hwx]; exact (Kd.V_far K1.out (p := ⟨w.heap.size, 1, none⟩) (fun k hk => by have := (HP1.out k hk).2; simp; omega) _))
  have X2 := Aside0.mk (show Kd.V k23 23 wx 0 P0 _ _ from by rw [hwx]; exact (Kd.V_far K2.out (p := ⟨w.heap.size, 1, none⟩) (fun k hk => by have := (HP1.out k hk).2; simp; omega) _))
  have X3 := Aside0.mk (show Kd.V k23 23 wx 0 P0 _ _ from by rw [hwx]; exact (Kd.V_far K3.out (p := ⟨w.heap.size, 1, none⟩) (fun k hk => by have := (HP1.out k hk).2; simp; omega) _))
  have HWX := Aside0.mk hwx
  clear hwx
  go_upto_region 18 with (fail)
  rw [← HWX.out]
  clear hqe hqr d0 d1 d2 d3 d4 d5 d6 d7 d8 d9 r0 r1 r2 r3 r4 r5 r6 r7 r8 r9
  obtain ⟨d0, d1, d2, d3, d4, d5, d6, d7, d8, d9⟩ := ten_cells HEX.out
  have hqr := blk_frozen HRX.out
  obtain ⟨r0, r1, r2, r3, r4, r5, r6, r7, r8, r9⟩ := ten_cells HRX.out
  go_wp2_with (fail)
  obtain ⟨y1, y2, y3⟩ := put_edV (w := w) (W := wx) (s := { s with pos := (s.text.size : Int) }) (rb := w.heap.size + 1) X1.out X2.out X3.out (fun k hk => by have := (HP1.out k hk).2; omega) HRX.out HBX.out (by omega)
  refine bodyPost_ret (results_cell_row rfl _ _ (w.heap.size + 1) 27 _ (0, 0) _ rfl y1 hu27 rfl (by first | rfl | decide)) rfl ?_
  exact ⟨_, rfl, y2.mono (fun k hk => .inl (HP1.out k hk).1), y3⟩

set_option maxHeartbeats 16000000 in
set_option maxRecDepth 100000 in
theorem rmove_5 (w : World) (P : Nat → Prop) (s : St) (v : Value) (hv : EdV w P s v) (h0 : 0 ≤ s.pos) (h1 : s.pos ≤ s.text.size) (hs : s.text.size ≤ 1000000) :
    Calls Try.prog 31 #[v, .int .i64 5] w fun e w' => ∃ v', e = .returned v' ∧ EdV w' (fun k => P k ∨ w.heap.size ≤ k) { s with pos := 0 } v' ∧ Below w.heap.size w w' := by
  have hvo := hv.old
  obtain ⟨P0, hP0⟩ : ∃ Q : Nat → Prop, Q = fun k => P k ∧ k < w.heap.size := ⟨_, rfl⟩
  rw [← hP0] at hvo
  have hp1 : ∀ k, P0 k → P k ∧ k < w.heap.size := by intro k hk; rw [hP0] at hk; exact hk
  clear hP0
  obtain ⟨Ak, Au, Ar, ck, cu, cr, rfl, v1, v2, v3⟩ := hvo
  have hu27 := Try.underlying27
  have hu23 := Try.underlying23
  obtain ⟨w1, hw1⟩ : ∃ z, z = (w.alloc (.cells #[.string s.text, .int .i64 s.pos, .int .i64 s.mark, .slice Ak s.kills.length ck, .slice Au s.undo.length cu, .slice Ar s.redo.length cr, .string s.keys, .int .i64 s.last, .int .i64 s.line, .string s.saved] 27)).alloc (.cells #[.string ⟨#[]⟩, .int .i64 0, .int .i64 0, .slice none 0 0, .slice none 0 0, .slice none 0 0, .string ⟨#[]⟩, .int .i64 0, .int .i64 0, .string ⟨#[]⟩] 27) := ⟨_, rfl⟩
  obtain ⟨b1, b2, b3, b4⟩ := box2 w #[.string s.text, .int .i64 s.pos, .int .i64 s.mark, .slice Ak s.kills.length ck, .slice Au s.undo.length cu, .slice Ar s.redo.length cr, .string s.keys, .int .i64 s.last, .int .i64 s.line, .string s.saved] #[.string ⟨#[]⟩, .int .i64 0, .int .i64 0, .slice none 0 0, .slice none 0 0, .slice none 0 0, .string ⟨#[]⟩, .int .i64 0, .int .i64 0, .string ⟨#[]⟩] 27 27
  rw [← hw1] at b1 b2 b3 b4
  have HE := Aside0.mk b1
  have HR := Aside0.mk b2
  have HB1 := Aside0.mk b3
  have HSZ := Aside0.mk b4
  have HP1 := Aside0.mk hp1
  have HW1 := Aside0.mk hw1
  have HV := Aside0.mk (show EdV w1 P0 s (edV s (.slice Ak s.kills.length ck) (.slice Au s.undo.length cu) (.slice Ar s.redo.length cr)) from ⟨Ak, Au, Ar, ck, cu, cr, rfl, Kd.V_below v1 b3, Kd.V_below v2 b3, Kd.V_below v3 b3⟩)
  have K1 := Aside0.mk (Kd.V_below v1 b3)
  have K2 := Aside0.mk (Kd.V_below v2 b3)
  have K3 := Aside0.mk (Kd.V_below v3 b3)
  unfold edV at HV hv ⊢
  obtain ⟨d0, d1, d2, d3, d4, d5, d6, d7, d8, d9⟩ := Box.cells (s := s) b1
  clear hv v1 v2 v3 hw1 b1 b2 b3 b4 hp1
  clear d0 d1 d2 d3 d4 d5 d6 d7 d8 d9
  go_enter Try.func31, Try.ntmps31
  go_upto_region 1 with (fail)
  rw [← HW1.out]
  have hqe := blk_frozen HE.out
  obtain ⟨d0, d1, d2, d3, d4, d5, d6, d7, d8, d9⟩ := Box.cells (s := s) HE.out
  have hqr := blk_frozen HR.out
  obtain ⟨r0, r1, r2, r3, r4, r5, r6, r7, r8, r9⟩ := ten_cells HR.out
  obtain ⟨wx, hwx⟩ : ∃ z, z = (w1.setCell ⟨w.heap.size, 1, none⟩ (.int .i64 (0))) := ⟨_, rfl⟩
  have HEX := Aside0.mk (show wx.heap[w.heap.size]? = some (.cells #[.string s.text, .int .i64 (0), .int .i64 s.mark, .slice Ak s.kills.length ck, .slice Au s.undo.length cu, .slice Ar s.redo.length cr, .string s.keys, .int .i64 s.last, .int .i64 s.line, .string s.saved] 27 (0, 0)) from by rw [hwx]; exact (blk_put (cs' := #[.string s.text, .int .i64 (0), .int .i64 s.mark, .slice Ak s.kills.length ck, .slice Au s.undo.length cu, .slice Ar s.redo.length cr, .string s.keys, .int .i64 s.last, .int .i64 s.line, .string s.saved]) HE.out 1 (.int .i64 (0)) rfl))
  have HRX := Aside0.mk (show wx.heap[w.heap.size + 1]? = some (.cells #[.string ⟨#[]⟩, .int .i64 0, .int .i64 0, .slice none 0 0, .slice none 0 0, .slice none 0 0, .string ⟨#[]⟩, .int .i64 0, .int .i64 0, .string ⟨#[]⟩] 27 (0, 0)) from by rw [hwx]; exact (blk_far HR.out (p := ⟨w.heap.size, 1, none⟩) (by simp) _))
  have HBX := Aside0.mk (show Below w.heap.size w wx from by rw [hwx]; exact (below_set HB1.out (Nat.le_refl _)))
  have X1 := Aside0.mk (show Kd.V Kd.string 9 wx 0 P0 _ _ from by rw [hwx]; exact (Kd.V_far K1.out (p := ⟨w.heap.size, 1, none⟩) (fun k hk => by have := (HP1.out k hk).2; simp; omega) _))
  have X2 := Aside0.mk (show Kd.V k23 23 wx 0 P0 _ _ from by rw [hwx]; exact (Kd.V_far K2.out (p := ⟨w.heap.size, 1, none⟩) (fun k hk => by have := (HP1.out k hk).2; simp; omega) _))
  have X3 := Aside0.mk (show Kd.V k23 23 wx 0 P0 _ _ from by rw [hwx]; exact (Kd.V_far K3.out (p := ⟨w.heap.size, 1, none⟩) (fun k hk => by have := (HP1.out k hk).2; simp; omega) _))
  have HWX := Aside0.mk hwx
  clear hwx
  go_upto_region 18 with (fail)
  rw [← HWX.out]
  clear hqe hqr d0 d1 d2 d3 d4 d5 d6 d7 d8 d9 r0 r1 r2 r3 r4 r5 r6 r7 r8 r9
  obtain ⟨d0, d1, d2, d3, d4, d5, d6, d7, d8, d9⟩ := ten_cells HEX.out
  have hqr := blk_frozen HRX.out
  obtain ⟨r0, r1, r2, r3, r4, r5, r6, r7, r8, r9⟩ := ten_cells HRX.out
  go_wp2_with (fail)
  obtain ⟨y1, y2, y3⟩ := put_edV (w := w) (W := wx) (s := { s with pos := 0 }) (rb := w.heap.size + 1) X1.out X2.out X3.out (fun k hk => by have := (HP1.out k hk).2; omega) HRX.out HBX.out (by omega)
  refine bodyPost_ret (results_cell_row rfl _ _ (w.heap.size + 1) 27 _ (0, 0) _ rfl y1 hu27 rfl (by first | rfl | decide)) rfl ?_
  exact ⟨_, rfl, y2.mono (fun k hk => .inl (HP1.out k hk).1), y3⟩

set_option maxHeartbeats 16000000 in
set_option maxRecDepth 100000 in
theorem rmove_6 (w : World) (P : Nat → Prop) (s : St) (v : Value) (hv : EdV w P s v) (h0 : 0 ≤ s.pos) (h1 : s.pos ≤ s.text.size) (hs : s.text.size ≤ 1000000) :
    Calls Try.prog 31 #[v, .int .i64 6] w fun e w' => ∃ v', e = .returned v' ∧ EdV w' (fun k => P k ∨ w.heap.size ≤ k) { s with pos := (s.text.size : Int) } v' ∧ Below w.heap.size w w' := by
  have hvo := hv.old
  obtain ⟨P0, hP0⟩ : ∃ Q : Nat → Prop, Q = fun k => P k ∧ k < w.heap.size := ⟨_, rfl⟩
  rw [← hP0] at hvo
  have hp1 : ∀ k, P0 k → P k ∧ k < w.heap.size := by intro k hk; rw [hP0] at hk; exact hk
  clear hP0
  obtain ⟨Ak, Au, Ar, ck, cu, cr, rfl, v1, v2, v3⟩ := hvo
  have hu27 := Try.underlying27
  have hu23 := Try.underlying23
  obtain ⟨w1, hw1⟩ : ∃ z, z = (w.alloc (.cells #[.string s.text, .int .i64 s.pos, .int .i64 s.mark, .slice Ak s.kills.length ck, .slice Au s.undo.length cu, .slice Ar s.redo.length cr, .string s.keys, .int .i64 s.last, .int .i64 s.line, .string s.saved] 27)).alloc (.cells #[.string ⟨#[]⟩, .int .i64 0, .int .i64 0, .slice none 0 0, .slice none 0 0, .slice none 0 0, .string ⟨#[]⟩, .int .i64 0, .int .i64 0, .string ⟨#[]⟩] 27) := ⟨_, rfl⟩
  obtain ⟨b1, b2, b3, b4⟩ := box2 w #[.string s.text, .int .i64 s.pos, .int .i64 s.mark, .slice Ak s.kills.length ck, .slice Au s.undo.length cu, .slice Ar s.redo.length cr, .string s.keys, .int .i64 s.last, .int .i64 s.line, .string s.saved] #[.string ⟨#[]⟩, .int .i64 0, .int .i64 0, .slice none 0 0, .slice none 0 0, .slice none 0 0, .string ⟨#[]⟩, .int .i64 0, .int .i64 0, .string ⟨#[]⟩] 27 27
  rw [← hw1] at b1 b2 b3 b4
  have HE := Aside0.mk b1
  have HR := Aside0.mk b2
  have HB1 := Aside0.mk b3
  have HSZ := Aside0.mk b4
  have HP1 := Aside0.mk hp1
  have HW1 := Aside0.mk hw1
  have HV := Aside0.mk (show EdV w1 P0 s (edV s (.slice Ak s.kills.length ck) (.slice Au s.undo.length cu) (.slice Ar s.redo.length cr)) from ⟨Ak, Au, Ar, ck, cu, cr, rfl, Kd.V_below v1 b3, Kd.V_below v2 b3, Kd.V_below v3 b3⟩)
  have K1 := Aside0.mk (Kd.V_below v1 b3)
  have K2 := Aside0.mk (Kd.V_below v2 b3)
  have K3 := Aside0.mk (Kd.V_below v3 b3)
  unfold edV at HV hv ⊢
  obtain ⟨d0, d1, d2, d3, d4, d5, d6, d7, d8, d9⟩ := Box.cells (s := s) b1
  clear hv v1 v2 v3 hw1 b1 b2 b3 b4 hp1
  clear d0 d1 d2 d3 d4 d5 d6 d7 d8 d9
  go_enter Try.func31, Try.ntmps31
  go_upto_region 1 with (fail)
  rw [← HW1.out]
  have hqe := blk_frozen HE.out
  obtain ⟨d0, d1, d2, d3, d4, d5, d6, d7, d8, d9⟩ := Box.cells (s := s) HE.out
  have hqr := blk_frozen HR.out
  obtain ⟨r0, r1, r2, r3, r4, r5, r6, r7, r8, r9⟩ := ten_cells HR.out
  obtain ⟨wx, hwx⟩ : ∃ z, z = (w1.setCell ⟨w.heap.size, 1, none⟩ (.int .i64 ((s.text.size : Int)))) := ⟨_, rfl⟩
  have HEX := Aside0.mk (show wx.heap[w.heap.size]? = some (.cells #[.string s.text, .int .i64 ((s.text.size : Int)), .int .i64 s.mark, .slice Ak s.kills.length ck, .slice Au s.undo.length cu, .slice Ar s.redo.length cr, .string s.keys, .int .i64 s.last, .int .i64 s.line, .string s.saved] 27 (0, 0)) from by rw [hwx]; exact (blk_put (cs' := #[.string s.text, .int .i64 ((s.text.size : Int)), .int .i64 s.mark, .slice Ak s.kills.length ck, .slice Au s.undo.length cu, .slice Ar s.redo.length cr, .string s.keys, .int .i64 s.last, .int .i64 s.line, .string s.saved]) HE.out 1 (.int .i64 ((s.text.size : Int))) rfl))
  have HRX := Aside0.mk (show wx.heap[w.heap.size + 1]? = some (.cells #[.string ⟨#[]⟩, .int .i64 0, .int .i64 0, .slice none 0 0, .slice none 0 0, .slice none 0 0, .string ⟨#[]⟩, .int .i64 0, .int .i64 0, .string ⟨#[]⟩] 27 (0, 0)) from by rw [hwx]; exact (blk_far HR.out (p := ⟨w.heap.size, 1, none⟩) (by simp) _))
  have HBX := Aside0.mk (show Below w.heap.size w wx from by rw [hwx]; exact (below_set HB1.out (Nat.le_refl _)))
  have X1 := Aside0.mk (show Kd.V Kd.string 9 wx 0 P0 _ _ from by rw [hwx]; exact (Kd.V_far K1.out (p := ⟨w.heap.size, 1, none⟩) (fun k hk => by have := (HP1.out k hk).2; simp; omega) _))
  have X2 := Aside0.mk (show Kd.V k23 23 wx 0 P0 _ _ from by rw [hwx]; exact (Kd.V_far K2.out (p := ⟨w.heap.size, 1, none⟩) (fun k hk => by have := (HP1.out k hk).2; simp; omega) _))
  have X3 := Aside0.mk (show Kd.V k23 23 wx 0 P0 _ _ from by rw [hwx]; exact (Kd.V_far K3.out (p := ⟨w.heap.size, 1, none⟩) (fun k hk => by have := (HP1.out k hk).2; simp; omega) _))
  have HWX := Aside0.mk hwx
  clear hwx
  go_upto_region 18 with (fail)
  rw [← HWX.out]
  clear hqe hqr d0 d1 d2 d3 d4 d5 d6 d7 d8 d9 r0 r1 r2 r3 r4 r5 r6 r7 r8 r9
  obtain ⟨d0, d1, d2, d3, d4, d5, d6, d7, d8, d9⟩ := ten_cells HEX.out
  have hqr := blk_frozen HRX.out
  obtain ⟨r0, r1, r2, r3, r4, r5, r6, r7, r8, r9⟩ := ten_cells HRX.out
  go_wp2_with (fail)
  obtain ⟨y1, y2, y3⟩ := put_edV (w := w) (W := wx) (s := { s with pos := (s.text.size : Int) }) (rb := w.heap.size + 1) X1.out X2.out X3.out (fun k hk => by have := (HP1.out k hk).2; omega) HRX.out HBX.out (by omega)
  refine bodyPost_ret (results_cell_row rfl _ _ (w.heap.size + 1) 27 _ (0, 0) _ rfl y1 hu27 rfl (by first | rfl | decide)) rfl ?_
  exact ⟨_, rfl, y2.mono (fun k hk => .inl (HP1.out k hk).1), y3⟩

set_option maxHeartbeats 16000000 in
set_option maxRecDepth 100000 in
theorem rmove_25 (w : World) (P : Nat → Prop) (s : St) (v : Value) (hv : EdV w P s v) (h0 : 0 ≤ s.pos) (h1 : s.pos ≤ s.text.size) (hs : s.text.size ≤ 1000000) :
    Calls Try.prog 31 #[v, .int .i64 25] w fun e w' => ∃ v', e = .returned v' ∧ EdV w' (fun k => P k ∨ w.heap.size ≤ k) { s with mark := s.pos } v' ∧ Below w.heap.size w w' := by
  have hvo := hv.old
  obtain ⟨P0, hP0⟩ : ∃ Q : Nat → Prop, Q = fun k => P k ∧ k < w.heap.size := ⟨_, rfl⟩
  rw [← hP0] at hvo
  have hp1 : ∀ k, P0 k → P k ∧ k < w.heap.size := by intro k hk; rw [hP0] at hk; exact hk
  clear hP0
  obtain ⟨Ak, Au, Ar, ck, cu, cr, rfl, v1, v2, v3⟩ := hvo
  have hu27 := Try.underlying27
  have hu23 := Try.underlying23
  obtain ⟨w1, hw1⟩ : ∃ z, z = (w.alloc (.cells #[.string s.text, .int .i64 s.pos, .int .i64 s.mark, .slice Ak s.kills.length ck, .slice Au s.undo.length cu, .slice Ar s.redo.length cr, .string s.keys, .int .i64 s.last, .int .i64 s.line, .string s.saved] 27)).alloc (.cells #[.string ⟨#[]⟩, .int .i64 0, .int .i64 0, .slice none 0 0, .slice none 0 0, .slice none 0 0, .string ⟨#[]⟩, .int .i64 0, .int .i64 0, .string ⟨#[]⟩] 27) := ⟨_, rfl⟩
  obtain ⟨b1, b2, b3, b4⟩ := box2 w #[.string s.text, .int .i64 s.pos, .int .i64 s.mark, .slice Ak s.kills.length ck, .slice Au s.undo.length cu, .slice Ar s.redo.length cr, .string s.keys, .int .i64 s.last, .int .i64 s.line, .string s.saved] #[.string ⟨#[]⟩, .int .i64 0, .int .i64 0, .slice none 0 0, .slice none 0 0, .slice none 0 0, .string ⟨#[]⟩, .int .i64 0, .int .i64 0, .string ⟨#[]⟩] 27 27
  rw [← hw1] at b1 b2 b3 b4
  have HE := Aside0.mk b1
  have HR := Aside0.mk b2
  have HB1 := Aside0.mk b3
  have HSZ := Aside0.mk b4
  have HP1 := Aside0.mk hp1
  have HW1 := Aside0.mk hw1
  have HV := Aside0.mk (show EdV w1 P0 s (edV s (.slice Ak s.kills.length ck) (.slice Au s.undo.length cu) (.slice Ar s.redo.length cr)) from ⟨Ak, Au, Ar, ck, cu, cr, rfl, Kd.V_below v1 b3, Kd.V_below v2 b3, Kd.V_below v3 b3⟩)
  have K1 := Aside0.mk (Kd.V_below v1 b3)
  have K2 := Aside0.mk (Kd.V_below v2 b3)
  have K3 := Aside0.mk (Kd.V_below v3 b3)
  unfold edV at HV hv ⊢
  obtain ⟨d0, d1, d2, d3, d4, d5, d6, d7, d8, d9⟩ := Box.cells (s := s) b1
  clear hv v1 v2 v3 hw1 b1 b2 b3 b4 hp1
  clear d0 d1 d2 d3 d4 d5 d6 d7 d8 d9
  go_enter Try.func31, Try.ntmps31
  go_upto_region 1 with (fail)
  rw [← HW1.out]
  have hqe := blk_frozen HE.out
  obtain ⟨d0, d1, d2, d3, d4, d5, d6, d7, d8, d9⟩ := Box.cells (s := s) HE.out
  have hqr := blk_frozen HR.out
  obtain ⟨r0, r1, r2, r3, r4, r5, r6, r7, r8, r9⟩ := ten_cells HR.out
  obtain ⟨wx, hwx⟩ : ∃ z, z = (w1.setCell ⟨w.heap.size, 2, none⟩ (.int .i64 s.pos)) := ⟨_, rfl⟩
  have HEX := Aside0.mk (show wx.heap[w.heap.size]? = some (.cells #[.string s.text, .int .i64 s.pos, .int .i64 s.pos, .slice Ak s.kills.length ck, .slice Au s.undo.length cu, .slice Ar s.redo.length cr, .string s.keys, .int .i64 s.last, .int .i64 s.line, .string s.saved] 27 (0, 0)) from by rw [hwx]; exact (blk_put (cs' := #[.string s.text, .int .i64 s.pos, .int .i64 s.pos, .slice Ak s.kills.length ck, .slice Au s.undo.length cu, .slice Ar s.redo.length cr, .string s.keys, .int .i64 s.last, .int .i64 s.line, .string s.saved]) HE.out 2 (.int .i64 s.pos) rfl))
  have HRX := Aside0.mk (show wx.heap[w.heap.size + 1]? = some (.cells #[.string ⟨#[]⟩, .int .i64 0, .int .i64 0, .slice none 0 0, .slice none 0 0, .slice none 0 0, .string ⟨#[]⟩, .int .i64 0, .int .i64 0, .string ⟨#[]⟩] 27 (0, 0)) from by rw [hwx]; exact (blk_far HR.out (p := ⟨w.heap.size, 2, none⟩) (by simp) _))
  have HBX := Aside0.mk (show Below w.heap.size w wx from by rw [hwx]; exact (below_set HB1.out (Nat.le_refl _)))
  have X1 := Aside0.mk (show Kd.V Kd.string 9 wx 0 P0 _ _ from by rw [hwx]; exact (Kd.V_far K1.out (p := ⟨w.heap.size, 2, none⟩) (fun k hk => by have := (HP1.out k hk).2; simp; omega) _))
  have X2 := Aside0.mk (show Kd.V k23 23 wx 0 P0 _ _ from by rw [hwx]; exact (Kd.V_far K2.out (p := ⟨w.heap.size, 2, none⟩) (fun k hk => by have := (HP1.out k hk).2; simp; omega) _))
  have X3 := Aside0.mk (show Kd.V k23 23 wx 0 P0 _ _ from by rw [hwx]; exact (Kd.V_far K3.out (p := ⟨w.heap.size, 2, none⟩) (fun k hk => by have := (HP1.out k hk).2; simp; omega) _))
  have HWX := Aside0.mk hwx
  clear hwx
  go_upto_region 18 with (fail)
  rw [← HWX.out]
  clear hqe hqr d0 d1 d2 d3 d4 d5 d6 d7 d8 d9 r0 r1 r2 r3 r4 r5 r6 r7 r8 r9
  obtain ⟨d0, d1, d2, d3, d4, d5, d6, d7, d8, d9⟩ := ten_cells HEX.out
  have hqr := blk_frozen HRX.out
  obtain ⟨r0, r1, r2, r3, r4, r5, r6, r7, r8, r9⟩ := ten_cells HRX.out
  go_wp2_with (fail)
  obtain ⟨y1, y2, y3⟩ := put_edV (w := w) (W := wx) (s := { s with mark := s.pos }) (rb := w.heap.size + 1) X1.out X2.out X3.out (fun k hk => by have := (HP1.out k hk).2; omega) HRX.out HBX.out (by omega)
  refine bodyPost_ret (results_cell_row rfl _ _ (w.heap.size + 1) 27 _ (0, 0) _ rfl y1 hu27 rfl (by first | rfl | decide)) rfl ?_
  exact ⟨_, rfl, y2.mono (fun k hk => .inl (HP1.out k hk).1), y3⟩

set_option maxHeartbeats 16000000 in
set_option maxRecDepth 100000 in
theorem rmove_26 (w : World) (P : Nat → Prop) (s : St) (v : Value) (hv : EdV w P s v) (h0 : 0 ≤ s.pos) (h1 : s.pos ≤ s.text.size) (hs : s.text.size ≤ 1000000) :
    Calls Try.prog 31 #[v, .int .i64 26] w fun e w' => ∃ v', e = .returned v' ∧ EdV w' (fun k => P k ∨ w.heap.size ≤ k) { s with pos := s.mark, mark := s.pos } v' ∧ Below w.heap.size w w' := by
  have hvo := hv.old
  obtain ⟨P0, hP0⟩ : ∃ Q : Nat → Prop, Q = fun k => P k ∧ k < w.heap.size := ⟨_, rfl⟩
  rw [← hP0] at hvo
  have hp1 : ∀ k, P0 k → P k ∧ k < w.heap.size := by intro k hk; rw [hP0] at hk; exact hk
  clear hP0
  obtain ⟨Ak, Au, Ar, ck, cu, cr, rfl, v1, v2, v3⟩ := hvo
  have hu27 := Try.underlying27
  have hu23 := Try.underlying23
  obtain ⟨w1, hw1⟩ : ∃ z, z = (w.alloc (.cells #[.string s.text, .int .i64 s.pos, .int .i64 s.mark, .slice Ak s.kills.length ck, .slice Au s.undo.length cu, .slice Ar s.redo.length cr, .string s.keys, .int .i64 s.last, .int .i64 s.line, .string s.saved] 27)).alloc (.cells #[.string ⟨#[]⟩, .int .i64 0, .int .i64 0, .slice none 0 0, .slice none 0 0, .slice none 0 0, .string ⟨#[]⟩, .int .i64 0, .int .i64 0, .string ⟨#[]⟩] 27) := ⟨_, rfl⟩
  obtain ⟨b1, b2, b3, b4⟩ := box2 w #[.string s.text, .int .i64 s.pos, .int .i64 s.mark, .slice Ak s.kills.length ck, .slice Au s.undo.length cu, .slice Ar s.redo.length cr, .string s.keys, .int .i64 s.last, .int .i64 s.line, .string s.saved] #[.string ⟨#[]⟩, .int .i64 0, .int .i64 0, .slice none 0 0, .slice none 0 0, .slice none 0 0, .string ⟨#[]⟩, .int .i64 0, .int .i64 0, .string ⟨#[]⟩] 27 27
  rw [← hw1] at b1 b2 b3 b4
  have HE := Aside0.mk b1
  have HR := Aside0.mk b2
  have HB1 := Aside0.mk b3
  have HSZ := Aside0.mk b4
  have HP1 := Aside0.mk hp1
  have HW1 := Aside0.mk hw1
  have HV := Aside0.mk (show EdV w1 P0 s (edV s (.slice Ak s.kills.length ck) (.slice Au s.undo.length cu) (.slice Ar s.redo.length cr)) from ⟨Ak, Au, Ar, ck, cu, cr, rfl, Kd.V_below v1 b3, Kd.V_below v2 b3, Kd.V_below v3 b3⟩)
  have K1 := Aside0.mk (Kd.V_below v1 b3)
  have K2 := Aside0.mk (Kd.V_below v2 b3)
  have K3 := Aside0.mk (Kd.V_below v3 b3)
  unfold edV at HV hv ⊢
  obtain ⟨d0, d1, d2, d3, d4, d5, d6, d7, d8, d9⟩ := Box.cells (s := s) b1
  clear hv v1 v2 v3 hw1 b1 b2 b3 b4 hp1
  clear d0 d1 d2 d3 d4 d5 d6 d7 d8 d9
  go_enter Try.func31, Try.ntmps31
  go_upto_region 1 with (fail)
  rw [← HW1.out]
  have hqe := blk_frozen HE.out
  obtain ⟨d0, d1, d2, d3, d4, d5, d6, d7, d8, d9⟩ := Box.cells (s := s) HE.out
  have hqr := blk_frozen HR.out
  obtain ⟨r0, r1, r2, r3, r4, r5, r6, r7, r8, r9⟩ := ten_cells HR.out
  obtain ⟨wx, hwx⟩ : ∃ z, z = ((w1.setCell ⟨w.heap.size, 1, none⟩ (.int .i64 s.mark)).setCell ⟨w.heap.size, 2, none⟩ (.int .i64 s.pos)) := ⟨_, rfl⟩
  have HEX := Aside0.mk (show wx.heap[w.heap.size]? = some (.cells #[.string s.text, .int .i64 s.mark, .int .i64 s.pos, .slice Ak s.kills.length ck, .slice Au s.undo.length cu, .slice Ar s.redo.length cr, .string s.keys, .int .i64 s.last, .int .i64 s.line, .string s.saved] 27 (0, 0)) from by rw [hwx]; exact (blk_put (cs' := #[.string s.text, .int .i64 s.mark, .int .i64 s.pos, .slice Ak s.kills.length ck, .slice Au s.undo.length cu, .slice Ar s.redo.length cr, .string s.keys, .int .i64 s.last, .int .i64 s.line, .string s.saved]) (blk_put (cs' := #[.string s.text, .int .i64 s.mark, .int .i64 s.mark, .slice Ak s.kills.length ck, .slice Au s.undo.length cu, .slice Ar s.redo.length cr, .string s.keys, .int .i64 s.last, .int .i64 s.line, .string s.saved]) HE.out 1 (.int .i64 s.mark) rfl) 2 (.int .i64 s.pos) rfl))
  have HRX := Aside0.mk (show wx.heap[w.heap.size + 1]? = some (.cells #[.string ⟨#[]⟩, .int .i64 0, .int .i64 0, .slice none 0 0, .slice none 0 0, .slice none 0 0, .string ⟨#[]⟩, .int .i64 0, .int .i64 0, .string ⟨#[]⟩] 27 (0, 0)) from by rw [hwx]; exact (blk_far (blk_far HR.out (p := ⟨w.heap.size, 1, none⟩) (by simp) _) (p := ⟨w.heap.size, 2, none⟩) (by simp) _))
  have HBX := Aside0.mk (show Below w.heap.size w wx from by rw [hwx]; exact (below_set (below_set HB1.out (Nat.le_refl _)) (Nat.le_refl _)))
  have X1 := Aside0.mk (show Kd.V Kd.string 9 wx 0 P0 _ _ from by rw [hwx]; exact (Kd.V_far (Kd.V_far K1.out (p := ⟨w.heap.size, 1, none⟩) (fun k hk => by have := (HP1.out k hk).2; simp; omega) _) (p := ⟨w.heap.size, 2, none⟩) (fun k hk => by have := (HP1.out k hk).2; simp; omega) _))
  have X2 := Aside0.mk (show Kd.V k23 23 wx 0 P0 _ _ from by rw [hwx]; exact (Kd.V_far (Kd.V_far K2.out (p := ⟨w.heap.size, 1, none⟩) (fun k hk => by have := (HP1.out k hk).2; simp; omega) _) (p := ⟨w.heap.size, 2, none⟩) (fun k hk => by have := (HP1.out k hk).2; simp; omega) _))
  have X3 := Aside0.mk (show Kd.V k23 23 wx 0 P0 _ _ from by rw [hwx]; exact (Kd.V_far (Kd.V_far K3.out (p := ⟨w.heap.size, 1, none⟩) (fun k hk => by have := (HP1.out k hk).2; simp; omega) _) (p := ⟨w.heap.size, 2, none⟩) (fun k hk => by have := (HP1.out k hk).2; simp; omega) _))
  have HWX := Aside0.mk hwx
  clear hwx
  go_upto_region 18 with (fail)
  rw [← HWX.out]
  clear hqe hqr d0 d1 d2 d3 d4 d5 d6 d7 d8 d9 r0 r1 r2 r3 r4 r5 r6 r7 r8 r9
  obtain ⟨d0, d1, d2, d3, d4, d5, d6, d7, d8, d9⟩ := ten_cells HEX.out
  have hqr := blk_frozen HRX.out
  obtain ⟨r0, r1, r2, r3, r4, r5, r6, r7, r8, r9⟩ := ten_cells HRX.out
  go_wp2_with (fail)
  obtain ⟨y1, y2, y3⟩ := put_edV (w := w) (W := wx) (s := { s with pos := s.mark, mark := s.pos }) (rb := w.heap.size + 1) X1.out X2.out X3.out (fun k hk => by have := (HP1.out k hk).2; omega) HRX.out HBX.out (by omega)
  refine bodyPost_ret (results_cell_row rfl _ _ (w.heap.size + 1) 27 _ (0, 0) _ rfl y1 hu27 rfl (by first | rfl | decide)) rfl ?_
  exact ⟨_, rfl, y2.mono (fun k hk => .inl (HP1.out k hk).1), y3⟩
end Go.Proofs.Ytlbbjdggebgabaa.P
end

section
namespace Go.Proofs.Ytlbbjdggebgabaa.P
open Go.RowKit Go.Proofs.YtlbbjdggebgabaaW.PrintWords Go.Proofs.YtlbbjdggebgabaaW.PrintLast Go.Proofs.YtlbbjdggebgabaaW.PrintMore
attribute [local go_sem] max2_int min2_int max_two min_two max_three min_three max_four min_four   -- for this text's walks alone
set_option linter.unusedVariables false
set_option linter.unusedSimpArgs false

def jobshellref01_Letter.f (a0 : Int) : Option (Bool) := if a0 ≥ 97 then (if a0 ≤ 122 then (some true) else (if a0 ≥ 65 then (some (decide (a0 ≤ 90))) else (some false))) else (if a0 ≥ 65 then (some (decide (a0 ≤ 90))) else (some false))
set_option maxHeartbeats 8000000 in
set_option maxRecDepth 100000 in
theorem jobshellref01_Letter.calls (a0 : Int) (r : Bool) (w : World) (h : jobshellref01_Letter.f a0 = some r) :
    Calls Try.prog 69 #[.int .u8 a0] w fun e w' => e = .returned (.bool r) ∧ Drawn0 w w' := by
  have H : (if a0 ≥ 97 then (if a0 ≤ 122 then (some true) else (if a0 ≥ 65 then (some (decide (a0 ≤ 90))) else (some false))) else (if a0 ≥ 65 then (some (decide (a0 ≤ 90))) else (some false))) = some r := h
  clear h
  by_cases c2 : a0 ≥ 97
  · rw [if_pos c2] at H
    have c2b0 : decide (97 ≤ a0) = true := decide_eq_true c2
    clear c2
    by_cases c3 : a0 ≤ 122
    · rw [if_pos c3] at H
      have c3b0 : decide (a0 ≤ 122) = true := decide_eq_true c3
      clear c3
      obtain rfl := Option.some.inj H
      go_enter Try.func69, Try.ntmps69
      go_wp2
      go_ret
      exact ⟨by first | rfl | (simp; done) | (simp [*]; done), by repeat (first | exact Drawn0.refl _ | apply Drawn0.step)⟩
    · rw [if_neg c3] at H
      have c3b0 : decide (a0 ≤ 122) = false := decide_eq_false c3
      clear c3
      by_cases c4 : a0 ≥ 65
      · rw [if_pos c4] at H
        have c4b0 : decide (65 ≤ a0) = true := decide_eq_true c4
        clear c4
        obtain rfl := Option.some.inj H
        go_enter Try.func69, Try.ntmps69
        go_wp2
        go_ret
        exact ⟨by first | rfl | (simp; done) | (simp [*]; done), by repeat (first | exact Drawn0.refl _ | apply Drawn0.step)⟩
      · rw [if_neg c4] at H
        have c4b0 : decide (65 ≤ a0) = false := decide_eq_false c4
        clear c4
        obtain rfl := Option.some.inj H
        go_enter Try.func69, Try.ntmps69
        go_wp2
        go_ret
        exact ⟨by first | rfl | (simp; done) | (simp [*]; done), by repeat (first | exact Drawn0.refl _ | apply Drawn0.step)⟩
  · rw [if_neg c2] at H
    have c2b0 : decide (97 ≤ a0) = false := decide_eq_false c2
    clear c2
    by_cases c5 : a0 ≥ 65
    · rw [if_pos c5] at H
      have c5b0 : decide (65 ≤ a0) = true := decide_eq_true c5
      clear c5
      obtain rfl := Option.some.inj H
      go_enter Try.func69, Try.ntmps69
      go_wp2
      go_ret
      exact ⟨by first | rfl | (simp; done) | (simp [*]; done), by repeat (first | exact Drawn0.refl _ | apply Drawn0.step)⟩
    · rw [if_neg c5] at H
      have c5b0 : decide (65 ≤ a0) = false := decide_eq_false c5
      clear c5
      obtain rfl := Option.some.inj H
      go_enter Try.func69, Try.ntmps69
      go_wp2
      go_ret
      exact ⟨by first | rfl | (simp; done) | (simp [*]; done), by repeat (first | exact Drawn0.refl _ | apply Drawn0.step)⟩

def jobshellref01_Digit.f (a0 : Int) : Option (Bool) := if a0 ≥ 48 then (some (decide (a0 ≤ 57))) else (some false)
set_option maxHeartbeats 8000000 in
set_option maxRecDepth 100000 in
theorem jobshellref01_Digit.calls (a0 : Int) (r : Bool) (w : World) (h : jobshellref01_Digit.f a0 = some r) :
    Calls Try.prog 70 #[.int .u8 a0] w fun e w' => e = .returned (.bool r) ∧ Drawn0 w w' := by
  have H : (if a0 ≥ 48 then (some (decide (a0 ≤ 57))) else (some false)) = some r := h
  clear h
  by_cases c2 : a0 ≥ 48
  · rw [if_pos c2] at H
    have c2b0 : decide (48 ≤ a0) = true := decide_eq_true c2
    clear c2
    obtain rfl := Option.some.inj H
    go_enter Try.func70, Try.ntmps70
    go_wp2
    go_ret
    exact ⟨by first | rfl | (simp; done) | (simp [*]; done), by repeat (first | exact Drawn0.refl _ | apply Drawn0.step)⟩
  · rw [if_neg c2] at H
    have c2b0 : decide (48 ≤ a0) = false := decide_eq_false c2
    clear c2
    obtain rfl := Option.some.inj H
    go_enter Try.func70, Try.ntmps70
    go_wp2
    go_ret
    exact ⟨by first | rfl | (simp; done) | (simp [*]; done), by repeat (first | exact Drawn0.refl _ | apply Drawn0.step)⟩

def jobshellref01_Word.f (a0 : Int) : Option (Bool) := (jobshellref01_Letter.f a0).bind fun t415 => (if t415 = true then (some true) else ((jobshellref01_Digit.f a0).bind fun t416 => (if t416 = true then (some true) else (some (a0 == 95)))))
set_option maxHeartbeats 8000000 in
set_option maxRecDepth 100000 in
theorem jobshellref01_Word.calls (a0 : Int) (r : Bool) (w : World) (h : jobshellref01_Word.f a0 = some r) :
    Calls Try.prog 65 #[.int .u8 a0] w fun e w' => e = .returned (.bool r) ∧ Drawn0 w w' := by
  have H : ((jobshellref01_Letter.f a0).bind fun t415 => (if t415 = true then (some true) else ((jobshellref01_Digit.f a0).bind fun t416 => (if t416 = true then (some true) else (some (a0 == 95)))))) = some r := h
  clear h
  replace H := Option.bind_eq_some_iff.mp H
  obtain ⟨t415, A20, H⟩ := H
  replace H : (if t415 = true then (some true) else ((jobshellref01_Digit.f a0).bind fun t416 => (if t416 = true then (some true) else (some (a0 == 95))))) = some r := H
  have A2 := Aside0.mk A20
  clear A20
  by_cases c3 : t415 = true
  · subst c3
    have H1 : (some true) = some r := by rw [if_pos rfl] at H; exact H
    clear H
    have H := H1
    clear H1
    obtain rfl := Option.some.inj H
    go_enter Try.func65, Try.ntmps65
    go_wp2_with (first | ((with_reducible refine gate_callee (f := 69) rfl ?_); refine goesL_ (some 4) rfl rfl Try.func69 (by kernel_rfl) rfl #[.int .u8 a0] rfl (by (try simp only [List.map_toArray, List.map_cons, List.map_nil]); first | done | rfl | (simp only [List.length_drop, List.length_take]; rfl)) ?_; (with_reducible refine (jobshellref01_Letter.calls a0 true _ A2.out).mono ?_); rintro e w' ⟨rfl, ⟨nd, rfl⟩⟩; refine ⟨_, rfl, ?_⟩))
    go_ret
    exact ⟨by first | rfl | (simp; done) | (simp [*]; done), by repeat (first | exact Drawn0.refl _ | apply Drawn0.step)⟩
  · replace c3 := Bool.eq_false_iff.mpr c3
    subst c3
    have H1 : ((jobshellref01_Digit.f a0).bind fun t416 => (if t416 = true then (some true) else (some (a0 == 95)))) = some r := by rw [if_neg (show ¬ (false = true) by decide)] at H; exact H
    clear H
    have H := H1
    clear H1
    replace H := Option.bind_eq_some_iff.mp H
    obtain ⟨t416, A40, H⟩ := H
    replace H : (if t416 = true then (some true) else (some (a0 == 95))) = some r := H
    have A4 := Aside0.mk A40
    clear A40
    by_cases c5 : t416 = true
    · subst c5
      have H1 : (some true) = some r := by rw [if_pos rfl] at H; exact H
      clear H
      have H := H1
      clear H1
      obtain rfl := Option.some.inj H
      go_enter Try.func65, Try.ntmps65
      go_wp2_with (first | ((with_reducible refine gate_callee (f := 69) rfl ?_); refine goesL_ (some 4) rfl rfl Try.func69 (by kernel_rfl) rfl #[.int .u8 a0] rfl (by (try simp only [List.map_toArray, List.map_cons, List.map_nil]); first | done | rfl | (simp only [List.length_drop, List.length_take]; rfl)) ?_; (with_reducible refine (jobshellref01_Letter.calls a0 false _ A2.out).mono ?_); rintro e w' ⟨rfl, ⟨nd, rfl⟩⟩; refine ⟨_, rfl, ?_⟩) | (go_at_call 70; (with_reducible refine (jobshellref01_Digit.calls a0 true _ A4.out).mono ?_); rintro e w' ⟨rfl, ⟨nd, rfl⟩⟩))
      go_ret
      exact ⟨by first | rfl | (simp; done) | (simp [*]; done), by repeat (first | exact Drawn0.refl _ | apply Drawn0.step)⟩
    · replace c5 := Bool.eq_false_iff.mpr c5
      subst c5
      have H1 : (some (a0 == 95)) = some r := by rw [if_neg (show ¬ (false = true) by decide)] at H; exact H
      clear H
      have H := H1
      clear H1
      obtain rfl := Option.some.inj H
      go_enter Try.func65, Try.ntmps65
      go_wp2_with (first | ((with_reducible refine gate_callee (f := 69) rfl ?_); refine goesL_ (some 4) rfl rfl Try.func69 (by kernel_rfl) rfl #[.int .u8 a0] rfl (by (try simp only [List.map_toArray, List.map_cons, List.map_nil]); first | done | rfl | (simp only [List.length_drop, List.length_take]; rfl)) ?_; (with_reducible refine (jobshellref01_Letter.calls a0 false _ A2.out).mono ?_); rintro e w' ⟨rfl, ⟨nd, rfl⟩⟩; refine ⟨_, rfl, ?_⟩) | (go_at_call 70; (with_reducible refine (jobshellref01_Digit.calls a0 false _ A4.out).mono ?_); rintro e w' ⟨rfl, ⟨nd, rfl⟩⟩))
      go_ret
      exact ⟨by first | rfl | (simp; done) | (simp [*]; done), by repeat (first | exact Drawn0.refl _ | apply Drawn0.step)⟩

mutual
def jobshellref46_next.j1 : Nat → Int → ByteArray → Int → Option (Int)
  | 0, _, _, _ => none
  | k + 1, x3, x418000, x418001 => jobshellref46_next.l1 k x3 x418000 x418001
def jobshellref46_next.l1 : Nat → Int → ByteArray → Int → Option (Int)
  | 0, _, _, _ => none
  | k + 1, x3, x418000, x418001 => if x3 < (x418000.size : Int) then (if 0 ≤ x3 then ((jobshellref01_Word.f (bt x418000 x3)).bind fun t419 => (if t419 = true then (jobshellref46_next.l1 k (wrap64 (x3 + 1)) x418000 x418001) else (some x3))) else (none)) else (some x3)
def jobshellref46_next.l0 : Nat → Int → ByteArray → Int → Option (Int)
  | 0, _, _, _ => none
  | k + 1, x3, x418000, x418001 => if x3 < (x418000.size : Int) then (if 0 ≤ x3 then ((jobshellref01_Word.f (bt x418000 x3)).bind fun t418 => (if t418 = true then (jobshellref46_next.j1 k x3 x418000 x418001) else (jobshellref46_next.l0 k (wrap64 (x3 + 1)) x418000 x418001))) else (none)) else (jobshellref46_next.j1 k x3 x418000 x418001)
end
def jobshellref46_next.f (k : Nat) (a0_0 : ByteArray) (a0_1 : Int) : Option (Int) := jobshellref46_next.l0 k a0_1 a0_0 a0_1
set_option maxHeartbeats 8000000 in
set_option maxRecDepth 100000 in
theorem jobshellref46_next.calls (k : Nat) (a0_0 : ByteArray) (a0_1 : Int) (r : Int) (w : World) (h : jobshellref46_next.f k a0_0 a0_1 = some r) :
    Calls Try.prog 48 #[.agg #[.string a0_0, .int .i64 a0_1]] w fun e w' => e = .returned (.int .i64 r) ∧ Below w.heap.size w w' := by
  have hu23 := Try.underlying23
  have HB := Aside0.mk (Below.refl w.heap.size w)
  have H : (jobshellref46_next.l0 k a0_1 a0_0 a0_1) = some r := h
  clear h
  have HC2 := Aside0.mk H
  clear H
  go_enter Try.func48, Try.ntmps48
  go_upto_block 0 with (first | ((with_reducible refine gate_dst (N := 1) rfl ?_); refine box_event ?hg (N := 1) ?hd (cs := #[.string a0_0, .int .i64 a0_1]) (t := 23) ?hr ?_; (case hd => rfl); (case hg => rfl); (case hr => first | (go_simp; done) | (go_simp; rfl)); intro gb417 hg w3 hbox hb; have n0_ := Aside0.mk (below_step (by repeat (first | (with_reducible first | exact HB.out | apply below_alloc | apply pw_below_drewN | apply below_drew1) | exact HB.out)) hb); have n1_ := Aside0.mk (hbox); have n2_ := Aside0.mk ((by rw [hg]; exact (below_size (by repeat (first | (with_reducible first | exact HB.out | apply below_alloc | apply pw_below_drewN | apply below_drew1) | exact HB.out))) : w.heap.size ≤ gb417)); have n3_ := Aside0.mk ((by rw [hg]; exact (below_size (by repeat (first | (with_reducible first | exact HB.out | apply below_alloc | apply pw_below_drewN | apply below_drew1) | exact HB.out))) : w.heap.size ≤ gb417)); clear HB; have HB := n0_; have BK417 := n1_; have GW417 := n2_; have GE417 := n3_; clear n0_ n1_ n2_ n3_; clear hb hbox hg; have hcz4_0 : w3.cell? ⟨gb417, 0, none⟩ = some (.string a0_0) := (blk_cell BK417.out 0).trans rfl; have hcz4_1 : w3.cell? ⟨gb417, 1, none⟩ = some (.int .i64 a0_1) := (blk_cell BK417.out 1).trans rfl; have hfz4_0 := blk_frozen BK417.out 0; have hfz4_1 := blk_frozen BK417.out 1))
  (try simp only [Act.put, List.setIfInBounds_toArray, List.set_cons_zero, List.set_cons_succ])
  go_cut [3] (fun v3 wc => ∃ (kq : Nat) (x3_1 : Int), v3 = .int .i64 x3_1 ∧ Aside0 (jobshellref46_next.j1 kq x3_1 a0_0 a0_1 = some r) ∧ Aside0 (kq ≤ k) ∧ Aside0 (wc.heap[gb417]? = some (.cells #[.string a0_0, .int .i64 a0_1] 23 (0, 0))) ∧ Aside0 (Below w.heap.size w wc))
  case first =>
    have H := HC2.out
    clear HC2
    have H' := Aside0.mk H
    clear H
    go_wp2
    go_loopg [3] k (fun kq v3 w' => ∃ (x3_1 : Int), v3 = .int .i64 x3_1 ∧ Aside0 (jobshellref46_next.l0 kq x3_1 a0_0 a0_1 = some r) ∧ Aside0 (kq ≤ k) ∧ Aside0 (w'.heap[gb417]? = some (.cells #[.string a0_0, .int .i64 a0_1] 23 (0, 0))) ∧ Aside0 (Below w.heap.size w w'))
    case atStart => exact ⟨(a0_1), (by first | rfl | (simp; done) | (simp [*]; done)), H', ⟨Nat.le_refl _⟩, ⟨by (with_reducible repeat (first | refine blk_drewN ?_ _ | refine blk_drew ?_ | refine blk_alloc ?_ _)); exact BK417.out⟩, ⟨by repeat (first | (with_reducible first | exact HB.out | apply below_alloc | apply pw_below_drewN | apply below_drew1 | refine below_set ?_ GE417.out) | exact HB.out)⟩⟩
    case round =>
      clear H'
      try clear p2
      try clear c4
      try clear hcz4_0
      try clear hcz4_1
      try clear hfz4_0
      try clear hfz4_1
      obtain ⟨x3_1, rfl, HA, HK1, BK417, HB⟩ := hrel
      cases gk with
      | zero => exact absurd HA.out (by simp [jobshellref46_next.l0])
      | succ k1 =>
        have H := HA.out
        clear HA
        simp only [jobshellref46_next.l0] at H
        by_cases c5 : x3_1 < (a0_0.size : Int)
        · rw [if_pos c5] at H
          have c5b0 : decide (x3_1 < (a0_0.size : Int)) = true := decide_eq_true c5
          clear c5
          (first | rw [c5b0] | (simp only [i64_w, i32_w]; rw [c5b0]) | skip)
          by_cases c6 : 0 ≤ x3_1
          · rw [if_pos c6] at H
            have c6b0 : decide (0 ≤ x3_1) = true := decide_eq_true c6
            clear c6
            replace H := Option.bind_eq_some_iff.mp H
            obtain ⟨t418, A80, H⟩ := H
            replace H : (if t418 = true then (jobshellref46_next.j1 k1 x3_1 a0_0 a0_1) else (jobshellref46_next.l0 k1 (wrap64 (x3_1 + 1)) a0_0 a0_1)) = some r := H
            have A8 := Aside0.mk A80
            clear A80
            by_cases c9 : t418 = true
            · subst c9
              have H1 : (jobshellref46_next.j1 k1 x3_1 a0_0 a0_1) = some r := by rw [if_pos rfl] at H; exact H
              clear H
              have H := H1
              clear H1
              have H' := Aside0.mk H
              clear H
              have hcz10_0 : wr.cell? ⟨gb417, 0, none⟩ = some (.string a0_0) := (blk_cell BK417.out 0).trans rfl
              have hcz10_1 : wr.cell? ⟨gb417, 1, none⟩ = some (.int .i64 a0_1) := (blk_cell BK417.out 1).trans rfl
              have hfz10_0 := blk_frozen BK417.out 0
              have hfz10_1 := blk_frozen BK417.out 1
              have p7 : 0 ≤ (x3_1 : Int) := of_decide_eq_true (by first | (with_reducible assumption) | assumption)
              have q7 : x3_1 < (a0_0.size : Int) := of_decide_eq_true (by first | (with_reducible assumption) | assumption)
              have hx7 := bt_at a0_0 x3_1
              replace p7 := eq_true p7
              replace q7 := eq_true q7
              go_wp2_with (first | (go_at_call 65; (with_reducible refine (jobshellref01_Word.calls (bt a0_0 x3_1) true _ A8.out).mono ?_); rintro e w' ⟨rfl, ⟨nd, rfl⟩⟩))
              go_meet
              case rel => exact ⟨_, (x3_1), (by first | rfl | (simp; done) | (simp [*]; done)), H', ⟨by have := HK1.out; first | omega | exact Nat.le_refl _⟩, ⟨by (with_reducible repeat (first | refine blk_drewN ?_ _ | refine blk_drew ?_ | refine blk_alloc ?_ _)); exact BK417.out⟩, ⟨by repeat (first | (with_reducible first | exact HB.out | apply below_alloc | apply pw_below_drewN | apply below_drew1 | refine below_set ?_ GE417.out) | exact HB.out)⟩⟩
            · replace c9 := Bool.eq_false_iff.mpr c9
              subst c9
              have H1 : (jobshellref46_next.l0 k1 (wrap64 (x3_1 + 1)) a0_0 a0_1) = some r := by rw [if_neg (show ¬ (false = true) by decide)] at H; exact H
              clear H
              have H := H1
              clear H1
              have H' := Aside0.mk H
              clear H
              have hcz11_0 : wr.cell? ⟨gb417, 0, none⟩ = some (.string a0_0) := (blk_cell BK417.out 0).trans rfl
              have hcz11_1 : wr.cell? ⟨gb417, 1, none⟩ = some (.int .i64 a0_1) := (blk_cell BK417.out 1).trans rfl
              have hfz11_0 := blk_frozen BK417.out 0
              have hfz11_1 := blk_frozen BK417.out 1
              have p7 : 0 ≤ (x3_1 : Int) := of_decide_eq_true (by first | (with_reducible assumption) | assumption)
              have q7 : x3_1 < (a0_0.size : Int) := of_decide_eq_true (by first | (with_reducible assumption) | assumption)
              have hx7 := bt_at a0_0 x3_1
              replace p7 := eq_true p7
              replace q7 := eq_true q7
              go_wp2_with (first | (go_at_call 65; (with_reducible refine (jobshellref01_Word.calls (bt a0_0 x3_1) false _ A8.out).mono ?_); rintro e w' ⟨rfl, ⟨nd, rfl⟩⟩))
              go_roundg k1
              case measure => have := HK1.out; omega
              case rel => exact ⟨(wrap64 (x3_1 + 1)), (by first | rfl | (simp; done) | (simp [*]; done)), H', ⟨by have := HK1.out; omega⟩, ⟨by (with_reducible repeat (first | refine blk_drewN ?_ _ | refine blk_drew ?_ | refine blk_alloc ?_ _)); exact BK417.out⟩, ⟨by repeat (first | (with_reducible first | exact HB.out | apply below_alloc | apply pw_below_drewN | apply below_drew1 | refine below_set ?_ GE417.out) | exact HB.out)⟩⟩
          · rw [if_neg c6] at H
            exact absurd H (by simp)
        · rw [if_neg c5] at H
          have c5b0 : decide (x3_1 < (a0_0.size : Int)) = false := decide_eq_false c5
          clear c5
          (first | rw [c5b0] | (simp only [i64_w, i32_w]; rw [c5b0]) | skip)
          have H' := Aside0.mk H
          clear H
          have hcz12_0 : wr.cell? ⟨gb417, 0, none⟩ = some (.string a0_0) := (blk_cell BK417.out 0).trans rfl
          have hcz12_1 : wr.cell? ⟨gb417, 1, none⟩ = some (.int .i64 a0_1) := (blk_cell BK417.out 1).trans rfl
          have hfz12_0 := blk_frozen BK417.out 0
          have hfz12_1 := blk_frozen BK417.out 1
          go_wp2
          go_meet
          case rel => exact ⟨_, (x3_1), (by first | rfl | (simp; done) | (simp [*]; done)), H', ⟨by have := HK1.out; first | omega | exact Nat.le_refl _⟩, ⟨by (with_reducible repeat (first | refine blk_drewN ?_ _ | refine blk_drew ?_ | refine blk_alloc ?_ _)); exact BK417.out⟩, ⟨by repeat (first | (with_reducible first | exact HB.out | apply below_alloc | apply pw_below_drewN | apply below_drew1 | refine below_set ?_ GE417.out) | exact HB.out)⟩⟩
  case rest =>
    clear HC2
    try clear p2
    try clear c4
    try clear c5
    try clear c5b0
    try clear c6
    try clear c6b0
    try clear p6
    try clear p7
    try clear q7
    try clear hx7
    try clear c9
    try clear hcz10_0
    try clear hcz10_1
    try clear hcz11_0
    try clear hcz11_1
    try clear hcz12_0
    try clear hcz12_1
    try clear hcz4_0
    try clear hcz4_1
    try clear hfz10_0
    try clear hfz10_1
    try clear hfz11_0
    try clear hfz11_1
    try clear hfz12_0
    try clear hfz12_1
    try clear hfz4_0
    try clear hfz4_1
    try clear p2
    try clear p7
    try clear q7
    obtain ⟨kq, x3_1, rfl, HA, HJ1, BK417, HB⟩ := hcut
    cases kq with
    | zero => exact absurd HA.out (by simp [jobshellref46_next.j1])
    | succ kj1 =>
      have H := HA.out
      clear HA
      simp only [jobshellref46_next.j1] at H
      have H' := Aside0.mk H
      clear H
      go_wp2
      go_loopg [3] kj1 (fun kq v3 w' => ∃ (x3_2 : Int), v3 = .int .i64 x3_2 ∧ Aside0 (jobshellref46_next.l1 kq x3_2 a0_0 a0_1 = some r) ∧ Aside0 (kq ≤ kj1) ∧ Aside0 (w'.heap[gb417]? = some (.cells #[.string a0_0, .int .i64 a0_1] 23 (0, 0))) ∧ Aside0 (Below w.heap.size w w'))
      case atStart => exact ⟨(x3_1), (by first | rfl | (simp; done) | (simp [*]; done)), H', ⟨Nat.le_refl _⟩, ⟨by (with_reducible repeat (first | refine blk_drewN ?_ _ | refine blk_drew ?_ | refine blk_alloc ?_ _)); exact BK417.out⟩, ⟨by repeat (first | (with_reducible first | exact HB.out | apply below_alloc | apply pw_below_drewN | apply below_drew1 | refine below_set ?_ GE417.out) | exact HB.out)⟩⟩
      case round =>
        clear H'
        try clear p2
        try clear c4
        try clear c5
        try clear c5b0
        try clear c6
        try clear c6b0
        try clear p6
        try clear p7
        try clear q7
        try clear hx7
        try clear c9
        try clear hcz10_0
        try clear hcz10_1
        try clear hcz11_0
        try clear hcz11_1
        try clear hcz12_0
        try clear hcz12_1
        try clear hcz4_0
        try clear hcz4_1
        try clear hfz10_0
        try clear hfz10_1
        try clear hfz11_0
        try clear hfz11_1
        try clear hfz12_0
        try clear hfz12_1
        try clear hfz4_0
        try clear hfz4_1
        try clear p2
        try clear p6
        try clear p7
        try clear q7
        obtain ⟨x3_2, rfl, HA, HK2, BK417, HB⟩ := hrel
        cases gk with
        | zero => exact absurd HA.out (by simp [jobshellref46_next.l1])
        | succ k2 =>
          have H := HA.out
          clear HA
          simp only [jobshellref46_next.l1] at H
          by_cases c13 : x3_2 < (a0_0.size : Int)
          · rw [if_pos c13] at H
            have c13b0 : decide (x3_2 < (a0_0.size : Int)) = true := decide_eq_true c13
            clear c13
            by_cases c14 : 0 ≤ x3_2
            · rw [if_pos c14] at H
              have c14b0 : decide (0 ≤ x3_2) = true := decide_eq_true c14
              clear c14
              replace H := Option.bind_eq_some_iff.mp H
              obtain ⟨t419, A160, H⟩ := H
              replace H : (if t419 = true then (jobshellref46_next.l1 k2 (wrap64 (x3_2 + 1)) a0_0 a0_1) else (some x3_2)) = some r := H
              have A16 := Aside0.mk A160
              clear A160
              by_cases c17 : t419 = true
              · subst c17
                have H1 : (jobshellref46_next.l1 k2 (wrap64 (x3_2 + 1)) a0_0 a0_1) = some r := by rw [if_pos rfl] at H; exact H
                clear H
                have H := H1
                clear H1
                have H' := Aside0.mk H
                clear H
                have hcz18_0 : wr.cell? ⟨gb417, 0, none⟩ = some (.string a0_0) := (blk_cell BK417.out 0).trans rfl
                have hcz18_1 : wr.cell? ⟨gb417, 1, none⟩ = some (.int .i64 a0_1) := (blk_cell BK417.out 1).trans rfl
                have hfz18_0 := blk_frozen BK417.out 0
                have hfz18_1 := blk_frozen BK417.out 1
                have p15 : 0 ≤ (x3_2 : Int) := of_decide_eq_true (by first | (with_reducible assumption) | assumption)
                have q15 : x3_2 < (a0_0.size : Int) := of_decide_eq_true (by first | (with_reducible assumption) | assumption)
                have hx15 := bt_at a0_0 x3_2
                replace p15 := eq_true p15
                replace q15 := eq_true q15
                go_wp2_with (first | (go_at_call 65; (with_reducible refine (jobshellref01_Word.calls (bt a0_0 x3_2) true _ A16.out).mono ?_); rintro e w' ⟨rfl, ⟨nd, rfl⟩⟩))
                go_roundg k2
                case measure => have := HJ1.out; have := HK2.out; omega
                case rel => exact ⟨(wrap64 (x3_2 + 1)), (by first | rfl | (simp; done) | (simp [*]; done)), H', ⟨by have := HJ1.out; have := HK2.out; omega⟩, ⟨by (with_reducible repeat (first | refine blk_drewN ?_ _ | refine blk_drew ?_ | refine blk_alloc ?_ _)); exact BK417.out⟩, ⟨by repeat (first | (with_reducible first | exact HB.out | apply below_alloc | apply pw_below_drewN | apply below_drew1 | refine below_set ?_ GE417.out) | exact HB.out)⟩⟩
              · replace c17 := Bool.eq_false_iff.mpr c17
                subst c17
                have H1 : (some x3_2) = some r := by rw [if_neg (show ¬ (false = true) by decide)] at H; exact H
                clear H
                have H := H1
                clear H1
                obtain rfl := Option.some.inj H
                have hcz19_0 : wr.cell? ⟨gb417, 0, none⟩ = some (.string a0_0) := (blk_cell BK417.out 0).trans rfl
                have hcz19_1 : wr.cell? ⟨gb417, 1, none⟩ = some (.int .i64 a0_1) := (blk_cell BK417.out 1).trans rfl
                have hfz19_0 := blk_frozen BK417.out 0
                have hfz19_1 := blk_frozen BK417.out 1
                have p15 : 0 ≤ (x3_2 : Int) := of_decide_eq_true (by first | (with_reducible assumption) | assumption)
                have q15 : x3_2 < (a0_0.size : Int) := of_decide_eq_true (by first | (with_reducible assumption) | assumption)
                have hx15 := bt_at a0_0 x3_2
                replace p15 := eq_true p15
                replace q15 := eq_true q15
                go_wp2_with (first | (go_at_call 65; (with_reducible refine (jobshellref01_Word.calls (bt a0_0 x3_2) false _ A16.out).mono ?_); rintro e w' ⟨rfl, ⟨nd, rfl⟩⟩))
                go_ret
                exact ⟨by first | rfl | (simp [errW_none, errW_some] <;> rfl) | (simp [*, errW_none, errW_some] <;> rfl), by repeat (first | (with_reducible first | exact HB.out | apply below_alloc | apply pw_below_drewN | apply below_drew1 | refine below_set ?_ GE417.out) | exact HB.out)⟩
            · rw [if_neg c14] at H
              exact absurd H (by simp)
          · rw [if_neg c13] at H
            have c13b0 : decide (x3_2 < (a0_0.size : Int)) = false := decide_eq_false c13
            clear c13
            obtain rfl := Option.some.inj H
            have hcz20_0 : wr.cell? ⟨gb417, 0, none⟩ = some (.string a0_0) := (blk_cell BK417.out 0).trans rfl
            have hcz20_1 : wr.cell? ⟨gb417, 1, none⟩ = some (.int .i64 a0_1) := (blk_cell BK417.out 1).trans rfl
            have hfz20_0 := blk_frozen BK417.out 0
            have hfz20_1 := blk_frozen BK417.out 1
            go_wp2
            go_ret
            exact ⟨by first | rfl | (simp [errW_none, errW_some] <;> rfl) | (simp [*, errW_none, errW_some] <;> rfl), by repeat (first | (with_reducible first | exact HB.out | apply below_alloc | apply pw_below_drewN | apply below_drew1 | refine below_set ?_ GE417.out) | exact HB.out)⟩

mutual
def jobshellref46_last.j1 : Nat → Int → ByteArray → Int → Option (Int)
  | 0, _, _, _ => none
  | k + 1, x3, x421000, x421001 => jobshellref46_last.l1 k x3 x421000 x421001
def jobshellref46_last.l1 : Nat → Int → ByteArray → Int → Option (Int)
  | 0, _, _, _ => none
  | k + 1, x3, x421000, x421001 => if x3 > 0 then (if 0 ≤ (wrap64 (x3 - 1)) then (if (wrap64 (x3 - 1)) < (x421000.size : Int) then ((jobshellref01_Word.f (bt x421000 (wrap64 (x3 - 1)))).bind fun t422 => (if t422 = true then (jobshellref46_last.l1 k (wrap64 (x3 - 1)) x421000 x421001) else (some x3))) else (none)) else (none)) else (some x3)
def jobshellref46_last.l0 : Nat → Int → ByteArray → Int → Option (Int)
  | 0, _, _, _ => none
  | k + 1, x3, x421000, x421001 => if x3 > 0 then (if 0 ≤ (wrap64 (x3 - 1)) then (if (wrap64 (x3 - 1)) < (x421000.size : Int) then ((jobshellref01_Word.f (bt x421000 (wrap64 (x3 - 1)))).bind fun t421 => (if t421 = true then (jobshellref46_last.j1 k x3 x421000 x421001) else (jobshellref46_last.l0 k (wrap64 (x3 - 1)) x421000 x421001))) else (none)) else (none)) else (jobshellref46_last.j1 k x3 x421000 x421001)
end
def jobshellref46_last.f (k : Nat) (a0_0 : ByteArray) (a0_1 : Int) : Option (Int) := jobshellref46_last.l0 k a0_1 a0_0 a0_1
set_option maxHeartbeats 8000000 in
set_option maxRecDepth 100000 in
theorem jobshellref46_last.calls (k : Nat) (a0_0 : ByteArray) (a0_1 : Int) (r : Int) (w : World) (h : jobshellref46_last.f k a0_0 a0_1 = some r) :
    Calls Try.prog 49 #[.agg #[.string a0_0, .int .i64 a0_1]] w fun e w' => e = .returned (.int .i64 r) ∧ Below w.heap.size w w' := by
  have hu23 := Try.underlying23
  have HB := Aside0.mk (Below.refl w.heap.size w)
  have H : (jobshellref46_last.l0 k a0_1 a0_0 a0_1) = some r := h
  clear h
  have HC2 := Aside0.mk H
  clear H
  go_enter Try.func49, Try.ntmps49
  go_upto_block 0 with (first | ((with_reducible refine gate_dst (N := 1) rfl ?_); refine box_event ?hg (N := 1) ?hd (cs := #[.string a0_0, .int .i64 a0_1]) (t := 23) ?hr ?_; (case hd => rfl); (case hg => rfl); (case hr => first | (go_simp; done) | (go_simp; rfl)); intro gb420 hg w3 hbox hb; have n0_ := Aside0.mk (below_step (by repeat (first | (with_reducible first | exact HB.out | apply below_alloc | apply pw_below_drewN | apply below_drew1) | exact HB.out)) hb); have n1_ := Aside0.mk (hbox); have n2_ := Aside0.mk ((by rw [hg]; exact (below_size (by repeat (first | (with_reducible first | exact HB.out | apply below_alloc | apply pw_below_drewN | apply below_drew1) | exact HB.out))) : w.heap.size ≤ gb420)); have n3_ := Aside0.mk ((by rw [hg]; exact (below_size (by repeat (first | (with_reducible first | exact HB.out | apply below_alloc | apply pw_below_drewN | apply below_drew1) | exact HB.out))) : w.heap.size ≤ gb420)); clear HB; have HB := n0_; have BK420 := n1_; have GW420 := n2_; have GE420 := n3_; clear n0_ n1_ n2_ n3_; clear hb hbox hg; have hcz4_0 : w3.cell? ⟨gb420, 0, none⟩ = some (.string a0_0) := (blk_cell BK420.out 0).trans rfl; have hcz4_1 : w3.cell? ⟨gb420, 1, none⟩ = some (.int .i64 a0_1) := (blk_cell BK420.out 1).trans rfl; have hfz4_0 := blk_frozen BK420.out 0; have hfz4_1 := blk_frozen BK420.out 1))
  (try simp only [Act.put, List.setIfInBounds_toArray, List.set_cons_zero, List.set_cons_succ])
  go_cut [3] (fun v3 wc => ∃ (kq : Nat) (x3_1 : Int), v3 = .int .i64 x3_1 ∧ Aside0 (jobshellref46_last.j1 kq x3_1 a0_0 a0_1 = some r) ∧ Aside0 (kq ≤ k) ∧ Aside0 (wc.heap[gb420]? = some (.cells #[.string a0_0, .int .i64 a0_1] 23 (0, 0))) ∧ Aside0 (Below w.heap.size w wc))
  case first =>
    have H := HC2.out
    clear HC2
    have H' := Aside0.mk H
    clear H
    go_wp2
    go_loopg [3] k (fun kq v3 w' => ∃ (x3_1 : Int), v3 = .int .i64 x3_1 ∧ Aside0 (jobshellref46_last.l0 kq x3_1 a0_0 a0_1 = some r) ∧ Aside0 (kq ≤ k) ∧ Aside0 (w'.heap[gb420]? = some (.cells #[.string a0_0, .int .i64 a0_1] 23 (0, 0))) ∧ Aside0 (Below w.heap.size w w'))
    case atStart => exact ⟨(a0_1), (by first | rfl | (simp; done) | (simp [*]; done)), H', ⟨Nat.le_refl _⟩, ⟨by (with_reducible repeat (first | refine blk_drewN ?_ _ | refine blk_drew ?_ | refine blk_alloc ?_ _)); exact BK420.out⟩, ⟨by repeat (first | (with_reducible first | exact HB.out | apply below_alloc | apply pw_below_drewN | apply below_drew1 | refine below_set ?_ GE420.out) | exact HB.out)⟩⟩
    case round =>
      clear H'
      try clear p2
      try clear c4
      try clear hcz4_0
      try clear hcz4_1
      try clear hfz4_0
      try clear hfz4_1
      obtain ⟨x3_1, rfl, HA, HK1, BK420, HB⟩ := hrel
      cases gk with
      | zero => exact absurd HA.out (by simp [jobshellref46_last.l0])
      | succ k1 =>
        have H := HA.out
        clear HA
        simp only [jobshellref46_last.l0] at H
        by_cases c5 : x3_1 > 0
        · rw [if_pos c5] at H
          have c5b0 : decide (0 < x3_1) = true := decide_eq_true c5
          clear c5
          (first | rw [c5b0] | (simp only [i64_w, i32_w]; rw [c5b0]) | skip)
          obtain ⟨ji6, hji6⟩ : ∃ j_ : Int, (wrap64 (x3_1 - 1)) = j_ := ⟨_, rfl⟩
          replace H : (if 0 ≤ (ji6) then (if (ji6) < (a0_0.size : Int) then ((jobshellref01_Word.f (bt a0_0 (ji6))).bind fun t421 => (if t421 = true then (jobshellref46_last.j1 k1 x3_1 a0_0 a0_1) else (jobshellref46_last.l0 k1 ji6 a0_0 a0_1))) else (none)) else (none)) = some r := by first | (rw [hji6] at H; exact H) | (simp only [hji6] at H ⊢; exact H)
          have hji6w : (IntKind.i64.wrap (x3_1 - 1)) = ji6 := (i64_w _).trans hji6
          by_cases c7 : 0 ≤ (ji6)
          · rw [if_pos c7] at H
            have c7b0 : decide (0 ≤ (ji6)) = true := decide_eq_true c7
            clear c7
            by_cases c8 : (ji6) < (a0_0.size : Int)
            · rw [if_pos c8] at H
              have c8b0 : decide ((ji6) < (a0_0.size : Int)) = true := decide_eq_true c8
              clear c8
              replace H := Option.bind_eq_some_iff.mp H
              obtain ⟨t421, A100, H⟩ := H
              replace H : (if t421 = true then (jobshellref46_last.j1 k1 x3_1 a0_0 a0_1) else (jobshellref46_last.l0 k1 ji6 a0_0 a0_1)) = some r := H
              have A10 := Aside0.mk A100
              clear A100
              by_cases c11 : t421 = true
              · subst c11
                have H1 : (jobshellref46_last.j1 k1 x3_1 a0_0 a0_1) = some r := by rw [if_pos rfl] at H; exact H
                clear H
                have H := H1
                clear H1
                have H' := Aside0.mk H
                clear H
                have hcz12_0 : wr.cell? ⟨gb420, 0, none⟩ = some (.string a0_0) := (blk_cell BK420.out 0).trans rfl
                have hcz12_1 : wr.cell? ⟨gb420, 1, none⟩ = some (.int .i64 a0_1) := (blk_cell BK420.out 1).trans rfl
                have hfz12_0 := blk_frozen BK420.out 0
                have hfz12_1 := blk_frozen BK420.out 1
                have p9 : 0 ≤ ((ji6) : Int) := of_decide_eq_true (by first | (with_reducible assumption) | assumption)
                have q9 : (ji6) < (a0_0.size : Int) := of_decide_eq_true (by first | (with_reducible assumption) | assumption)
                have hx9 := bt_at a0_0 (ji6)
                replace p9 := eq_true p9
                replace q9 := eq_true q9
                go_wp2_with (first | (go_at_call 65; (with_reducible refine (jobshellref01_Word.calls (bt a0_0 (ji6)) true _ A10.out).mono ?_); rintro e w' ⟨rfl, ⟨nd, rfl⟩⟩))
                go_meet
                case rel => exact ⟨_, (x3_1), (by first | rfl | (simp; done) | (simp [*]; done)), H', ⟨by have := HK1.out; first | omega | exact Nat.le_refl _⟩, ⟨by (with_reducible repeat (first | refine blk_drewN ?_ _ | refine blk_drew ?_ | refine blk_alloc ?_ _)); exact BK420.out⟩, ⟨by repeat (first | (with_reducible first | exact HB.out | apply below_alloc | apply pw_below_drewN | apply below_drew1 | refine below_set ?_ GE420.out) | exact HB.out)⟩⟩
              · replace c11 := Bool.eq_false_iff.mpr c11
                subst c11
                have H1 : (jobshellref46_last.l0 k1 ji6 a0_0 a0_1) = some r := by rw [if_neg (show ¬ (false = true) by decide)] at H; exact H
                clear H
                have H := H1
                clear H1
                have H' := Aside0.mk H
                clear H
                have hcz13_0 : wr.cell? ⟨gb420, 0, none⟩ = some (.string a0_0) := (blk_cell BK420.out 0).trans rfl
                have hcz13_1 : wr.cell? ⟨gb420, 1, none⟩ = some (.int .i64 a0_1) := (blk_cell BK420.out 1).trans rfl
                have hfz13_0 := blk_frozen BK420.out 0
                have hfz13_1 := blk_frozen BK420.out 1
                have p9 : 0 ≤ ((ji6) : Int) := of_decide_eq_true (by first | (with_reducible assumption) | assumption)
                have q9 : (ji6) < (a0_0.size : Int) := of_decide_eq_true (by first | (with_reducible assumption) | assumption)
                have hx9 := bt_at a0_0 (ji6)
                replace p9 := eq_true p9
                replace q9 := eq_true q9
                go_wp2_with (first | (go_at_call 65; (with_reducible refine (jobshellref01_Word.calls (bt a0_0 (ji6)) false _ A10.out).mono ?_); rintro e w' ⟨rfl, ⟨nd, rfl⟩⟩))
                go_roundg k1
                case measure => have := HK1.out; omega
                case rel => exact ⟨(ji6), (by first | rfl | (simp; done) | (simp only [← hji6] <;> (first | rfl | simp)) | (simp [*]; done)), H', ⟨by have := HK1.out; omega⟩, ⟨by (with_reducible repeat (first | refine blk_drewN ?_ _ | refine blk_drew ?_ | refine blk_alloc ?_ _)); exact BK420.out⟩, ⟨by repeat (first | (with_reducible first | exact HB.out | apply below_alloc | apply pw_below_drewN | apply below_drew1 | refine below_set ?_ GE420.out) | exact HB.out)⟩⟩
            · rw [if_neg c8] at H
              exact absurd H (by simp)
          · rw [if_neg c7] at H
            exact absurd H (by simp)
        · rw [if_neg c5] at H
          have c5b0 : decide (0 < x3_1) = false := decide_eq_false c5
          clear c5
          (first | rw [c5b0] | (simp only [i64_w, i32_w]; rw [c5b0]) | skip)
          have H' := Aside0.mk H
          clear H
          go_wp2
          go_meet
          case rel => exact ⟨_, (x3_1), (by first | rfl | (simp; done) | (simp [*]; done)), H', ⟨by have := HK1.out; first | omega | exact Nat.le_refl _⟩, ⟨by (with_reducible repeat (first | refine blk_drewN ?_ _ | refine blk_drew ?_ | refine blk_alloc ?_ _)); exact BK420.out⟩, ⟨by repeat (first | (with_reducible first | exact HB.out | apply below_alloc | apply pw_below_drewN | apply below_drew1 | refine below_set ?_ GE420.out) | exact HB.out)⟩⟩
  case rest =>
    clear HC2
    try clear c1
    try clear p2
    try clear c4
    try clear c5
    try clear c5b0
    try clear p6
    try clear c7
    try clear c7b0
    try clear c8
    try clear c8b0
    try clear p9
    try clear q9
    try clear hx9
    try clear c11
    try clear hcz12_0
    try clear hcz12_1
    try clear hcz13_0
    try clear hcz13_1
    try clear hcz4_0
    try clear hcz4_1
    try clear hfz12_0
    try clear hfz12_1
    try clear hfz13_0
    try clear hfz13_1
    try clear hfz4_0
    try clear hfz4_1
    try clear p2
    try clear p9
    try clear q9
    obtain ⟨kq, x3_1, rfl, HA, HJ1, BK420, HB⟩ := hcut
    cases kq with
    | zero => exact absurd HA.out (by simp [jobshellref46_last.j1])
    | succ kj1 =>
      have H := HA.out
      clear HA
      simp only [jobshellref46_last.j1] at H
      have H' := Aside0.mk H
      clear H
      go_wp2
      go_loopg [3] kj1 (fun kq v3 w' => ∃ (x3_2 : Int), v3 = .int .i64 x3_2 ∧ Aside0 (jobshellref46_last.l1 kq x3_2 a0_0 a0_1 = some r) ∧ Aside0 (kq ≤ kj1) ∧ Aside0 (w'.heap[gb420]? = some (.cells #[.string a0_0, .int .i64 a0_1] 23 (0, 0))) ∧ Aside0 (Below w.heap.size w w'))
      case atStart => exact ⟨(x3_1), (by first | rfl | (simp; done) | (simp [*]; done)), H', ⟨Nat.le_refl _⟩, ⟨by (with_reducible repeat (first | refine blk_drewN ?_ _ | refine blk_drew ?_ | refine blk_alloc ?_ _)); exact BK420.out⟩, ⟨by repeat (first | (with_reducible first | exact HB.out | apply below_alloc | apply pw_below_drewN | apply below_drew1 | refine below_set ?_ GE420.out) | exact HB.out)⟩⟩
      case round =>
        clear H'
        try clear c1
        try clear p2
        try clear c4
        try clear c5
        try clear c5b0
        try clear p6
        try clear c7
        try clear c7b0
        try clear c8
        try clear c8b0
        try clear p9
        try clear q9
        try clear hx9
        try clear c11
        try clear hcz12_0
        try clear hcz12_1
        try clear hcz13_0
        try clear hcz13_1
        try clear hcz4_0
        try clear hcz4_1
        try clear hfz12_0
        try clear hfz12_1
        try clear hfz13_0
        try clear hfz13_1
        try clear hfz4_0
        try clear hfz4_1
        try clear p2
        try clear p6
        try clear p9
        try clear q9
        obtain ⟨x3_2, rfl, HA, HK2, BK420, HB⟩ := hrel
        cases gk with
        | zero => exact absurd HA.out (by simp [jobshellref46_last.l1])
        | succ k2 =>
          have H := HA.out
          clear HA
          simp only [jobshellref46_last.l1] at H
          by_cases c14 : x3_2 > 0
          · rw [if_pos c14] at H
            have c14b0 : decide (0 < x3_2) = true := decide_eq_true c14
            clear c14
            obtain ⟨ji15, hji15⟩ : ∃ j_ : Int, (wrap64 (x3_2 - 1)) = j_ := ⟨_, rfl⟩
            replace H : (if 0 ≤ (ji15) then (if (ji15) < (a0_0.size : Int) then ((jobshellref01_Word.f (bt a0_0 (ji15))).bind fun t422 => (if t422 = true then (jobshellref46_last.l1 k2 ji15 a0_0 a0_1) else (some x3_2))) else (none)) else (none)) = some r := by first | (rw [hji15] at H; exact H) | (simp only [hji15] at H ⊢; exact H)
            have hji15w : (IntKind.i64.wrap (x3_2 - 1)) = ji15 := (i64_w _).trans hji15
            by_cases c16 : 0 ≤ (ji15)
            · rw [if_pos c16] at H
              have c16b0 : decide (0 ≤ (ji15)) = true := decide_eq_true c16
              clear c16
              by_cases c17 : (ji15) < (a0_0.size : Int)
              · rw [if_pos c17] at H
                have c17b0 : decide ((ji15) < (a0_0.size : Int)) = true := decide_eq_true c17
                clear c17
                replace H := Option.bind_eq_some_iff.mp H
                obtain ⟨t422, A190, H⟩ := H
                replace H : (if t422 = true then (jobshellref46_last.l1 k2 ji15 a0_0 a0_1) else (some x3_2)) = some r := H
                have A19 := Aside0.mk A190
                clear A190
                by_cases c20 : t422 = true
                · subst c20
                  have H1 : (jobshellref46_last.l1 k2 ji15 a0_0 a0_1) = some r := by rw [if_pos rfl] at H; exact H
                  clear H
                  have H := H1
                  clear H1
                  have H' := Aside0.mk H
                  clear H
                  have hcz21_0 : wr.cell? ⟨gb420, 0, none⟩ = some (.string a0_0) := (blk_cell BK420.out 0).trans rfl
                  have hcz21_1 : wr.cell? ⟨gb420, 1, none⟩ = some (.int .i64 a0_1) := (blk_cell BK420.out 1).trans rfl
                  have hfz21_0 := blk_frozen BK420.out 0
                  have hfz21_1 := blk_frozen BK420.out 1
                  have p18 : 0 ≤ ((ji15) : Int) := of_decide_eq_true (by first | (with_reducible assumption) | assumption)
                  have q18 : (ji15) < (a0_0.size : Int) := of_decide_eq_true (by first | (with_reducible assumption) | assumption)
                  have hx18 := bt_at a0_0 (ji15)
                  replace p18 := eq_true p18
                  replace q18 := eq_true q18
                  go_wp2_with (first | (go_at_call 65; (with_reducible refine (jobshellref01_Word.calls (bt a0_0 (ji15)) true _ A19.out).mono ?_); rintro e w' ⟨rfl, ⟨nd, rfl⟩⟩))
                  go_roundg k2
                  case measure => have := HJ1.out; have := HK2.out; omega
                  case rel => exact ⟨(ji15), (by first | rfl | (simp; done) | (simp only [← hji15] <;> (first | rfl | simp)) | (simp [*]; done)), H', ⟨by have := HJ1.out; have := HK2.out; omega⟩, ⟨by (with_reducible repeat (first | refine blk_drewN ?_ _ | refine blk_drew ?_ | refine blk_alloc ?_ _)); exact BK420.out⟩, ⟨by repeat (first | (with_reducible first | exact HB.out | apply below_alloc | apply pw_below_drewN | apply below_drew1 | refine below_set ?_ GE420.out) | exact HB.out)⟩⟩
                · replace c20 := Bool.eq_false_iff.mpr c20
                  subst c20
                  have H1 : (some x3_2) = some r := by rw [if_neg (show ¬ (false = true) by decide)] at H; exact H
                  clear H
                  have H := H1
                  clear H1
                  obtain rfl := Option.some.inj H
                  have hcz22_0 : wr.cell? ⟨gb420, 0, none⟩ = some (.string a0_0) := (blk_cell BK420.out 0).trans rfl
                  have hcz22_1 : wr.cell? ⟨gb420, 1, none⟩ = some (.int .i64 a0_1) := (blk_cell BK420.out 1).trans rfl
                  have hfz22_0 := blk_frozen BK420.out 0
                  have hfz22_1 := blk_frozen BK420.out 1
                  have p18 : 0 ≤ ((ji15) : Int) := of_decide_eq_true (by first | (with_reducible assumption) | assumption)
                  have q18 : (ji15) < (a0_0.size : Int) := of_decide_eq_true (by first | (with_reducible assumption) | assumption)
                  have hx18 := bt_at a0_0 (ji15)
                  replace p18 := eq_true p18
                  replace q18 := eq_true q18
                  go_wp2_with (first | (go_at_call 65; (with_reducible refine (jobshellref01_Word.calls (bt a0_0 (ji15)) false _ A19.out).mono ?_); rintro e w' ⟨rfl, ⟨nd, rfl⟩⟩))
                  go_ret
                  exact ⟨by first | rfl | (simp [errW_none, errW_some] <;> rfl) | (simp only [← hji15]; first | rfl | (simp [errW_none, errW_some] <;> rfl)) | (simp [*, errW_none, errW_some] <;> rfl), by repeat (first | (with_reducible first | exact HB.out | apply below_alloc | apply pw_below_drewN | apply below_drew1 | refine below_set ?_ GE420.out) | exact HB.out)⟩
              · rw [if_neg c17] at H
                exact absurd H (by simp)
            · rw [if_neg c16] at H
              exact absurd H (by simp)
          · rw [if_neg c14] at H
            have c14b0 : decide (0 < x3_2) = false := decide_eq_false c14
            clear c14
            obtain rfl := Option.some.inj H
            go_wp2
            go_ret
            exact ⟨by first | rfl | (simp [errW_none, errW_some] <;> rfl) | (simp [*, errW_none, errW_some] <;> rfl), by repeat (first | (with_reducible first | exact HB.out | apply below_alloc | apply pw_below_drewN | apply below_drew1 | refine below_set ?_ GE420.out) | exact HB.out)⟩

end Go.Proofs.Ytlbbjdggebgabaa.P
end

section
/- The reference's words' ends: plain facts. -/
namespace Go.Proofs.Ytlbbjdggebgabaa.P
open Go.RowKit Go.Proofs.YtlbbjdggebgabaaW.PrintWords Go.Proofs.YtlbbjdggebgabaaW.PrintLast Go.Proofs.YtlbbjdggebgabaaW.PrintMore
set_option linter.unusedVariables false
set_option linter.unusedSimpArgs false

theorem word_f (c : Int) : jobshellref01_Word.f c = some (letterI c) := by
  unfold jobshellref01_Word.f jobshellref01_Letter.f jobshellref01_Digit.f letterI
  by_cases h1 : c ≥ 97
  · rw [if_pos h1]
    by_cases h2 : c ≤ 122
    · rw [if_pos h2, decide_eq_true (show 97 ≤ c from h1), decide_eq_true h2]; rfl
    · rw [if_neg h2, if_pos (show c ≥ 65 by omega), decide_eq_false (show ¬ c ≤ 90 by omega), Option.bind_some, if_neg (by decide), if_pos (show c ≥ 48 by omega), decide_eq_false (show ¬ c ≤ 57 by omega), Option.bind_some, if_neg (by decide), decide_eq_false h2]
      simp
  · rw [if_neg h1]
    have g1 : decide (97 ≤ c) = false := decide_eq_false h1
    by_cases h3 : c ≥ 65
    · rw [if_pos h3]
      by_cases h4 : c ≤ 90
      · rw [decide_eq_true h4, g1, decide_eq_true (show 65 ≤ c from h3)]; rfl
      · rw [decide_eq_false h4, Option.bind_some, if_neg (by decide), if_pos (show c ≥ 48 by omega), decide_eq_false (show ¬ c ≤ 57 by omega), Option.bind_some, if_neg (by decide), g1]
        simp
    · rw [if_neg h3, Option.bind_some, if_neg (by decide), g1, decide_eq_false (show ¬ 65 ≤ c from h3)]
      by_cases h5 : c ≥ 48
      · rw [if_pos h5, decide_eq_true (show 48 ≤ c from h5)]
        by_cases h6 : c ≤ 57
        · rw [decide_eq_true h6]; rfl
        · rw [decide_eq_false h6]; rfl
      · rw [if_neg h5, decide_eq_false (show ¬ 48 ≤ c from h5)]; rfl
theorem wrap_at {x : Int} (h0 : -9223372036854775808 ≤ x) (h1 : x ≤ 9223372036854775807) : wrap64 x = x := by unfold wrap64; omega
theorem next_l1 (t : ByteArray) (p : Int) (ht : t.size ≤ 1000000000000) : ∀ n i k, i ≤ t.size → t.size ≤ i + n → n < k → jobshellref46_next.l1 k (i : Int) t p = some ((fwd letterI t n i : Nat) : Int)
  | 0, i, k + 1, h0, h1, h2 => by
    rw [jobshellref46_next.l1, if_neg (by omega)]
    rfl
  | n + 1, i, k + 1, h0, h1, h2 => by
    rw [jobshellref46_next.l1, fwd]
    by_cases hi : i < t.size
    · rw [if_pos (by omega), if_pos (by omega), word_f, Option.bind_some]
      by_cases hl : letterI (bt t (i : Int)) = true
      · rw [if_pos hl, if_pos ⟨hi, hl⟩, wrap_at (by omega) (by omega)]
        have := next_l1 t p ht n (i + 1) k (by omega) (by omega) (by omega)
        push_cast at this
        exact this
      · rw [if_neg hl, if_neg (fun h => hl h.2)]
    · rw [if_neg (by omega), if_neg (fun h => hi h.1)]
theorem next_l0 (t : ByteArray) (p : Int) (ht : t.size ≤ 1000000000000) : ∀ n i k, i ≤ t.size → t.size ≤ i + n → n + t.size + 2 < k → jobshellref46_next.l0 k (i : Int) t p = some ((fwd letterI t t.size (fwd (fun c => !letterI c) t n i) : Nat) : Int)
  | 0, i, k + 2, h0, h1, h2 => by
    rw [jobshellref46_next.l0, if_neg (by omega), jobshellref46_next.j1]
    exact next_l1 t p ht t.size i k h0 (by omega) (by omega)
  | n + 1, i, k + 2, h0, h1, h2 => by
    rw [jobshellref46_next.l0, fwd]
    by_cases hi : i < t.size
    · rw [if_pos (by omega), if_pos (by omega), word_f, Option.bind_some]
      by_cases hl : letterI (bt t (i : Int)) = true
      · rw [if_pos hl, if_neg (fun h => by have := h.2; rw [hl] at this; simp at this), jobshellref46_next.j1]
        exact next_l1 t p ht t.size i k h0 (by omega) (by omega)
      · have hl2 : letterI (bt t (i : Int)) = false := by simpa using hl
        rw [if_neg hl, if_pos ⟨hi, by rw [hl2]; rfl⟩, wrap_at (by omega) (by omega)]
        have := next_l0 t p ht n (i + 1) (k + 1) (by omega) (by omega) (by omega)
        push_cast at this
        exact this
    · rw [if_neg (by omega), if_neg (fun h => hi h.1), jobshellref46_next.j1]
      exact next_l1 t p ht t.size i k h0 (by omega) (by omega)
theorem next_f (t : ByteArray) (n : Nat) (hn : n ≤ t.size) (ht : t.size ≤ 1000000000000) : jobshellref46_next.f (2 * t.size + 3) t (n : Int) = some ((wordEndS t n : Nat) : Int) := by
  unfold jobshellref46_next.f wordEndS
  exact next_l0 t (n : Int) ht t.size n _ hn (by omega) (by omega)
theorem last_l1 (t : ByteArray) (p : Int) (ht : t.size ≤ 1000000000000) : ∀ i k, i ≤ t.size → i < k → jobshellref46_last.l1 k (i : Int) t p = some ((bwd letterI t i : Nat) : Int)
  | 0, k + 1, h0, h1 => by
    rw [jobshellref46_last.l1, if_neg (by omega)]
    rfl
  | i + 1, k + 1, h0, h1 => by
    have e : wrap64 (((i + 1 : Nat) : Int) - 1) = (i : Int) := by rw [wrap_at (by omega) (by omega)]; omega
    rw [jobshellref46_last.l1, if_pos (by omega), e, if_pos (by omega), if_pos (by omega), word_f, Option.bind_some, bwd]
    by_cases hl : letterI (bt t (i : Int)) = true
    · rw [if_pos hl, if_pos hl]
      exact last_l1 t p ht i k (by omega) (by omega)
    · rw [if_neg hl, if_neg hl]
theorem last_l0 (t : ByteArray) (p : Int) (ht : t.size ≤ 1000000000000) : ∀ i k, i ≤ t.size → i + t.size + 2 < k → jobshellref46_last.l0 k (i : Int) t p = some ((bwd letterI t (bwd (fun c => !letterI c) t i) : Nat) : Int)
  | 0, k + 2, h0, h1 => by
    rw [jobshellref46_last.l0, if_neg (by omega), jobshellref46_last.j1]
    exact last_l1 t p ht 0 k (by omega) (by omega)
  | i + 1, k + 2, h0, h1 => by
    have e : wrap64 (((i + 1 : Nat) : Int) - 1) = (i : Int) := by rw [wrap_at (by omega) (by omega)]; omega
    rw [jobshellref46_last.l0, if_pos (by omega), e, if_pos (by omega), if_pos (by omega), word_f, Option.bind_some]
    by_cases hl : letterI (bt t (i : Int)) = true
    · rw [if_pos hl, jobshellref46_last.j1, show bwd (fun c => !letterI c) t (i + 1) = i + 1 by rw [bwd, if_neg (by rw [hl]; simp)]]
      exact last_l1 t p ht (i + 1) k (by omega) (by omega)
    · have hl2 : letterI (bt t (i : Int)) = false := by simpa using hl
      rw [if_neg hl, show bwd (fun c => !letterI c) t (i + 1) = bwd (fun c => !letterI c) t i by rw [bwd, if_pos (by rw [hl2]; rfl)]]
      exact last_l0 t p ht i (k + 1) (by omega) (by omega)
theorem last_f (t : ByteArray) (n : Nat) (hn : n ≤ t.size) (ht : t.size ≤ 1000000000000) : jobshellref46_last.f (2 * t.size + 3) t (n : Int) = some ((wordStartS t n : Nat) : Int) := by
  unfold jobshellref46_last.f wordStartS
  exact last_l0 t (n : Int) ht n _ hn (by omega)
end Go.Proofs.Ytlbbjdggebgabaa.P
end

section
/- The reference's move, joined. -/
namespace Go.Proofs.Ytlbbjdggebgabaa.P
open Go.RowKit Go.Proofs.YtlbbjdggebgabaaW.PrintWords Go.Proofs.YtlbbjdggebgabaaW.PrintLast Go.Proofs.YtlbbjdggebgabaaW.PrintMore
set_option linter.unusedVariables false
set_option linter.unusedSimpArgs false

set_option maxHeartbeats 16000000 in
set_option maxRecDepth 100000 in
theorem rmove_7 (w : World) (P : Nat → Prop) (s : St) (v : Value) (hv : EdV w P s v) (h0 : 0 ≤ s.pos) (h1 : s.pos ≤ s.text.size) (hs : s.text.size ≤ 1000000) :
    Calls Try.prog 31 #[v, .int .i64 7] w fun e w' => ∃ v', e = .returned v' ∧ EdV w' (fun k => P k ∨ w.heap.size ≤ k) { s with pos := ((wordStartS s.text s.pos.toNat : Nat) : Int) } v' ∧ Below w.heap.size w w' := by
  have hvo := hv.old
  obtain ⟨P0, hP0⟩ : ∃ Q : Nat → Prop, Q = fun k => P k ∧ k < w.heap.size := ⟨_, rfl⟩
  rw [← hP0] at hvo
  have hp1 : ∀ k, P0 k → P k ∧ k < w.heap.size := by intro k hk; rw [hP0] at hk; exact hk
  clear hP0
  obtain ⟨Ak, Au, Ar, ck, cu, cr, rfl, v1, v2, v3⟩ := hvo
  have hu27 := Try.underlying27
  have hu23 := Try.underlying23
  obtain ⟨w1, hw1⟩ : ∃ z, z = (w.alloc (.cells #[.string s.text, .int .i64 s.pos, .int .i64 s.mark, .slice Ak s.kills.length ck, .slice Au s.undo.length cu, .slice Ar s.redo.length cr, .string s.keys, .int .i64 s.last, .int .i64 s.line, .string s.saved] 27)).alloc (.cells #[.string ⟨#[]⟩, .int .i64 0, .int .i64 0, .slice none 0 0, .slice none 0 0, .slice none 0 0, .string ⟨#[]⟩, .int .i64 0, .int .i64 0, .string ⟨#[]⟩] 27) := ⟨_, rfl⟩
  obtain ⟨b1, b2, b3, b4⟩ := box2 w #[.string s.text, .int .i64 s.pos, .int .i64 s.mark, .slice Ak s.kills.length ck, .slice Au s.undo.length cu, .slice Ar s.redo.length cr, .string s.keys, .int .i64 s.last, .int .i64 s.line, .string s.saved] #[.string ⟨#[]⟩, .int .i64 0, .int .i64 0, .slice none 0 0, .slice none 0 0, .slice none 0 0, .string ⟨#[]⟩, .int .i64 0, .int .i64 0, .string ⟨#[]⟩] 27 27
  rw [← hw1] at b1 b2 b3 b4
  have HE := Aside0.mk b1
  have HR := Aside0.mk b2
  have HB1 := Aside0.mk b3
  have HSZ := Aside0.mk b4
  have HP1 := Aside0.mk hp1
  have HW1 := Aside0.mk hw1
  have HV := Aside0.mk (show EdV w1 P0 s (edV s (.slice Ak s.kills.length ck) (.slice Au s.undo.length cu) (.slice Ar s.redo.length cr)) from ⟨Ak, Au, Ar, ck, cu, cr, rfl, Kd.V_below v1 b3, Kd.V_below v2 b3, Kd.V_below v3 b3⟩)
  have K1 := Aside0.mk (Kd.V_below v1 b3)
  have K2 := Aside0.mk (Kd.V_below v2 b3)
  have K3 := Aside0.mk (Kd.V_below v3 b3)
  unfold edV at HV hv ⊢
  obtain ⟨d0, d1, d2, d3, d4, d5, d6, d7, d8, d9⟩ := Box.cells (s := s) b1
  clear hv v1 v2 v3 hw1 b1 b2 b3 b4 hp1
  clear d0 d1 d2 d3 d4 d5 d6 d7 d8 d9
  have hf : jobshellref46_last.f (2 * s.text.size + 3) s.text s.pos = some ((wordStartS s.text s.pos.toNat : Nat) : Int) := by
    have h := last_f s.text s.pos.toNat (by omega) (by omega)
    rw [show ((s.pos.toNat : Nat) : Int) = s.pos by omega] at h
    exact h
  obtain ⟨q, hq⟩ : ∃ z, z = ((wordStartS s.text s.pos.toNat : Nat) : Int) := ⟨_, rfl⟩
  rw [← hq] at hf ⊢
  have HF := Aside0.mk hf
  clear hf hq
  go_enter Try.func31, Try.ntmps31
  go_upto_region 1 with (fail)
  rw [← HW1.out]
  have hqe := blk_frozen HE.out
  obtain ⟨d0, d1, d2, d3, d4, d5, d6, d7, d8, d9⟩ := Box.cells (s := s) HE.out
  have hqr := blk_frozen HR.out
  obtain ⟨r0, r1, r2, r3, r4, r5, r6, r7, r8, r9⟩ := ten_cells HR.out
  go_wp2_with (fail)
  refine (jobshellref46_last.calls (2 * s.text.size + 3) s.text s.pos q w1 HF.out).mono ?_
  rintro e w2 ⟨rfl, hb⟩
  have HE' := Aside0.mk (blk_below HE.out hb)
  have HR' := Aside0.mk (blk_below HR.out hb)
  have K1' := Aside0.mk (Kd.V_below K1.out hb)
  have K2' := Aside0.mk (Kd.V_below K2.out hb)
  have K3' := Aside0.mk (Kd.V_below K3.out hb)
  have HB1' := Aside0.mk (below_step HB1.out hb)
  clear HE HR K1 K2 K3 HB1 hb hqe hqr d0 d1 d2 d3 d4 d5 d6 d7 d8 d9 r0 r1 r2 r3 r4 r5 r6 r7 r8 r9
  have HE := HE'
  have HR := HR'
  have K1 := K1'
  have K2 := K2'
  have K3 := K3'
  have HB1 := HB1'
  clear HE' HR' K1' K2' K3' HB1'
  have hqe := blk_frozen HE.out
  obtain ⟨d0, d1, d2, d3, d4, d5, d6, d7, d8, d9⟩ := Box.cells (s := s) HE.out
  have hqr := blk_frozen HR.out
  obtain ⟨r0, r1, r2, r3, r4, r5, r6, r7, r8, r9⟩ := ten_cells HR.out
  obtain ⟨wx, hwx⟩ : ∃ z, z = (w2.setCell ⟨w.heap.size, 1, none⟩ (.int .i64 q)) := ⟨_, rfl⟩
  have HEX := Aside0.mk (show wx.heap[w.heap.size]? = some (.cells #[.string s.text, .int .i64 q, .int .i64 s.mark, .slice Ak s.kills.length ck, .slice Au s.undo.length cu, .slice Ar s.redo.length cr, .string s.keys, .int .i64 s.last, .int .i64 s.line, .string s.saved] 27 (0, 0)) from by rw [hwx]; exact (blk_put (cs' := #[.string s.text, .int .i64 q, .int .i64 s.mark, .slice Ak s.kills.length ck, .slice Au s.undo.length cu, .slice Ar s.redo.length cr, .string s.keys, .int .i64 s.last, .int .i64 s.line, .string s.saved]) HE.out 1 (.int .i64 q) rfl))
  have HRX := Aside0.mk (show wx.heap[w.heap.size + 1]? = some (.cells #[.string ⟨#[]⟩, .int .i64 0, .int .i64 0, .slice none 0 0, .slice none 0 0, .slice none 0 0, .string ⟨#[]⟩, .int .i64 0, .int .i64 0, .string ⟨#[]⟩] 27 (0, 0)) from by rw [hwx]; exact (blk_far HR.out (p := ⟨w.heap.size, 1, none⟩) (by simp) _))
  have HBX := Aside0.mk (show Below w.heap.size w wx from by rw [hwx]; exact (below_set HB1.out (Nat.le_refl _)))
  have X1 := Aside0.mk (show Kd.V Kd.string 9 wx 0 P0 _ _ from by rw [hwx]; exact (Kd.V_far K1.out (p := ⟨w.heap.size, 1, none⟩) (fun k hk => by have := (HP1.out k hk).2; simp; omega) _))
  have X2 := Aside0.mk (show Kd.V k23 23 wx 0 P0 _ _ from by rw [hwx]; exact (Kd.V_far K2.out (p := ⟨w.heap.size, 1, none⟩) (fun k hk => by have := (HP1.out k hk).2; simp; omega) _))
  have X3 := Aside0.mk (show Kd.V k23 23 wx 0 P0 _ _ from by rw [hwx]; exact (Kd.V_far K3.out (p := ⟨w.heap.size, 1, none⟩) (fun k hk => by have := (HP1.out k hk).2; simp; omega) _))
  have HWX := Aside0.mk hwx
  clear hwx
  go_upto_region 18 with (fail)
  rw [← HWX.out]
  clear hqe hqr d0 d1 d2 d3 d4 d5 d6 d7 d8 d9 r0 r1 r2 r3 r4 r5 r6 r7 r8 r9
  obtain ⟨d0, d1, d2, d3, d4, d5, d6, d7, d8, d9⟩ := ten_cells HEX.out
  have hqr := blk_frozen HRX.out
  obtain ⟨r0, r1, r2, r3, r4, r5, r6, r7, r8, r9⟩ := ten_cells HRX.out
  go_wp2_with (fail)
  obtain ⟨y1, y2, y3⟩ := put_edV (w := w) (W := wx) (s := { s with pos := q }) (rb := w.heap.size + 1) X1.out X2.out X3.out (fun k hk => by have := (HP1.out k hk).2; omega) HRX.out HBX.out (by omega)
  refine bodyPost_ret (results_cell_row rfl _ _ (w.heap.size + 1) 27 _ (0, 0) _ rfl y1 hu27 rfl (by first | rfl | decide)) rfl ?_
  exact ⟨_, rfl, y2.mono (fun k hk => .inl (HP1.out k hk).1), y3⟩

set_option maxHeartbeats 16000000 in
set_option maxRecDepth 100000 in
theorem rmove_8 (w : World) (P : Nat → Prop) (s : St) (v : Value) (hv : EdV w P s v) (h0 : 0 ≤ s.pos) (h1 : s.pos ≤ s.text.size) (hs : s.text.size ≤ 1000000) :
    Calls Try.prog 31 #[v, .int .i64 8] w fun e w' => ∃ v', e = .returned v' ∧ EdV w' (fun k => P k ∨ w.heap.size ≤ k) { s with pos := ((wordEndS s.text s.pos.toNat : Nat) : Int) } v' ∧ Below w.heap.size w w' := by
  have hvo := hv.old
  obtain ⟨P0, hP0⟩ : ∃ Q : Nat → Prop, Q = fun k => P k ∧ k < w.heap.size := ⟨_, rfl⟩
  rw [← hP0] at hvo
  have hp1 : ∀ k, P0 k → P k ∧ k < w.heap.size := by intro k hk; rw [hP0] at hk; exact hk
  clear hP0
  obtain ⟨Ak, Au, Ar, ck, cu, cr, rfl, v1, v2, v3⟩ := hvo
  have hu27 := Try.underlying27
  have hu23 := Try.underlying23
  obtain ⟨w1, hw1⟩ : ∃ z, z = (w.alloc (.cells #[.string s.text, .int .i64 s.pos, .int .i64 s.mark, .slice Ak s.kills.length ck, .slice Au s.undo.length cu, .slice Ar s.redo.length cr, .string s.keys, .int .i64 s.last, .int .i64 s.line, .string s.saved] 27)).alloc (.cells #[.string ⟨#[]⟩, .int .i64 0, .int .i64 0, .slice none 0 0, .slice none 0 0, .slice none 0 0, .string ⟨#[]⟩, .int .i64 0, .int .i64 0, .string ⟨#[]⟩] 27) := ⟨_, rfl⟩
  obtain ⟨b1, b2, b3, b4⟩ := box2 w #[.string s.text, .int .i64 s.pos, .int .i64 s.mark, .slice Ak s.kills.length ck, .slice Au s.undo.length cu, .slice Ar s.redo.length cr, .string s.keys, .int .i64 s.last, .int .i64 s.line, .string s.saved] #[.string ⟨#[]⟩, .int .i64 0, .int .i64 0, .slice none 0 0, .slice none 0 0, .slice none 0 0, .string ⟨#[]⟩, .int .i64 0, .int .i64 0, .string ⟨#[]⟩] 27 27
  rw [← hw1] at b1 b2 b3 b4
  have HE := Aside0.mk b1
  have HR := Aside0.mk b2
  have HB1 := Aside0.mk b3
  have HSZ := Aside0.mk b4
  have HP1 := Aside0.mk hp1
  have HW1 := Aside0.mk hw1
  have HV := Aside0.mk (show EdV w1 P0 s (edV s (.slice Ak s.kills.length ck) (.slice Au s.undo.length cu) (.slice Ar s.redo.length cr)) from ⟨Ak, Au, Ar, ck, cu, cr, rfl, Kd.V_below v1 b3, Kd.V_below v2 b3, Kd.V_below v3 b3⟩)
  have K1 := Aside0.mk (Kd.V_below v1 b3)
  have K2 := Aside0.mk (Kd.V_below v2 b3)
  have K3 := Aside0.mk (Kd.V_below v3 b3)
  unfold edV at HV hv ⊢
  obtain ⟨d0, d1, d2, d3, d4, d5, d6, d7, d8, d9⟩ := Box.cells (s := s) b1
  clear hv v1 v2 v3 hw1 b1 b2 b3 b4 hp1
  clear d0 d1 d2 d3 d4 d5 d6 d7 d8 d9
  have hf : jobshellref46_next.f (2 * s.text.size + 3) s.text s.pos = some ((wordEndS s.text s.pos.toNat : Nat) : Int) := by
    have h := next_f s.text s.pos.toNat (by omega) (by omega)
    rw [show ((s.pos.toNat : Nat) : Int) = s.pos by omega] at h
    exact h
  obtain ⟨q, hq⟩ : ∃ z, z = ((wordEndS s.text s.pos.toNat : Nat) : Int) := ⟨_, rfl⟩
  rw [← hq] at hf ⊢
  have HF := Aside0.mk hf
  clear hf hq
  go_enter Try.func31, Try.ntmps31
  go_upto_region 1 with (fail)
  rw [← HW1.out]
  have hqe := blk_frozen HE.out
  obtain ⟨d0, d1, d2, d3, d4, d5, d6, d7, d8, d9⟩ := Box.cells (s := s) HE.out
  have hqr := blk_frozen HR.out
  obtain ⟨r0, r1, r2, r3, r4, r5, r6, r7, r8, r9⟩ := ten_cells HR.out
  go_wp2_with (fail)
  refine (jobshellref46_next.calls (2 * s.text.size + 3) s.text s.pos q w1 HF.out).mono ?_
  rintro e w2 ⟨rfl, hb⟩
  have HE' := Aside0.mk (blk_below HE.out hb)
  have HR' := Aside0.mk (blk_below HR.out hb)
  have K1' := Aside0.mk (Kd.V_below K1.out hb)
  have K2' := Aside0.mk (Kd.V_below K2.out hb)
  have K3' := Aside0.mk (Kd.V_below K3.out hb)
  have HB1' := Aside0.mk (below_step HB1.out hb)
  clear HE HR K1 K2 K3 HB1 hb hqe hqr d0 d1 d2 d3 d4 d5 d6 d7 d8 d9 r0 r1 r2 r3 r4 r5 r6 r7 r8 r9
  have HE := HE'
  have HR := HR'
  have K1 := K1'
  have K2 := K2'
  have K3 := K3'
  have HB1 := HB1'
  clear HE' HR' K1' K2' K3' HB1'
  have hqe := blk_frozen HE.out
  obtain ⟨d0, d1, d2, d3, d4, d5, d6, d7, d8, d9⟩ := Box.cells (s := s) HE.out
  have hqr := blk_frozen HR.out
  obtain ⟨r0, r1, r2, r3, r4, r5, r6, r7, r8, r9⟩ := ten_cells HR.out
  obtain ⟨wx, hwx⟩ : ∃ z, z = (w2.setCell ⟨w.heap.size, 1, none⟩ (.int .i64 q)) := ⟨_, rfl⟩
  have HEX := Aside0.mk (show wx.heap[w.heap.size]? = some (.cells #[.string s.text, .int .i64 q, .int .i64 s.mark, .slice Ak s.kills.length ck, .slice Au s.undo.length cu, .slice Ar s.redo.length cr, .string s.keys, .int .i64 s.last, .int .i64 s.line, .string s.saved] 27 (0, 0)) from by rw [hwx]; exact (blk_put (cs' := #[.string s.text, .int .i64 q, .int .i64 s.mark, .slice Ak s.kills.length ck, .slice Au s.undo.length cu, .slice Ar s.redo.length cr, .string s.keys, .int .i64 s.last, .int .i64 s.line, .string s.saved]) HE.out 1 (.int .i64 q) rfl))
  have HRX := Aside0.mk (show wx.heap[w.heap.size + 1]? = some (.cells #[.string ⟨#[]⟩, .int .i64 0, .int .i64 0, .slice none 0 0, .slice none 0 0, .slice none 0 0, .string ⟨#[]⟩, .int .i64 0, .int .i64 0, .string ⟨#[]⟩] 27 (0, 0)) from by rw [hwx]; exact (blk_far HR.out (p := ⟨w.heap.size, 1, none⟩) (by simp) _))
  have HBX := Aside0.mk (show Below w.heap.size w wx from by rw [hwx]; exact (below_set HB1.out (Nat.le_refl _)))
  have X1 := Aside0.mk (show Kd.V Kd.string 9 wx 0 P0 _ _ from by rw [hwx]; exact (Kd.V_far K1.out (p := ⟨w.heap.size, 1, none⟩) (fun k hk => by have := (HP1.out k hk).2; simp; omega) _))
  have X2 := Aside0.mk (show Kd.V k23 23 wx 0 P0 _ _ from by rw [hwx]; exact (Kd.V_far K2.out (p := ⟨w.heap.size, 1, none⟩) (fun k hk => by have := (HP1.out k hk).2; simp; omega) _))
  have X3 := Aside0.mk (show Kd.V k23 23 wx 0 P0 _ _ from by rw [hwx]; exact (Kd.V_far K3.out (p := ⟨w.heap.size, 1, none⟩) (fun k hk => by have := (HP1.out k hk).2; simp; omega) _))
  have HWX := Aside0.mk hwx
  clear hwx
  go_upto_region 18 with (fail)
  rw [← HWX.out]
  clear hqe hqr d0 d1 d2 d3 d4 d5 d6 d7 d8 d9 r0 r1 r2 r3 r4 r5 r6 r7 r8 r9
  obtain ⟨d0, d1, d2, d3, d4, d5, d6, d7, d8, d9⟩ := ten_cells HEX.out
  have hqr := blk_frozen HRX.out
  obtain ⟨r0, r1, r2, r3, r4, r5, r6, r7, r8, r9⟩ := ten_cells HRX.out
  go_wp2_with (fail)
  obtain ⟨y1, y2, y3⟩ := put_edV (w := w) (W := wx) (s := { s with pos := q }) (rb := w.heap.size + 1) X1.out X2.out X3.out (fun k hk => by have := (HP1.out k hk).2; omega) HRX.out HBX.out (by omega)
  refine bodyPost_ret (results_cell_row rfl _ _ (w.heap.size + 1) 27 _ (0, 0) _ rfl y1 hu27 rfl (by first | rfl | decide)) rfl ?_
  exact ⟨_, rfl, y2.mono (fun k hk => .inl (HP1.out k hk).1), y3⟩

set_option maxHeartbeats 16000000 in
set_option maxRecDepth 100000 in
theorem rmove_none (w : World) (P : Nat → Prop) (s : St) (a : Int) (v : Value) (hv : EdV w P s v) (n3 : (a == 3) = false) (n4 : (a == 4) = false) (n5 : (a == 5) = false) (n6 : (a == 6) = false) (n7 : (a == 7) = false) (n8 : (a == 8) = false) (n25 : (a == 25) = false) (n26 : (a == 26) = false) :
    Calls Try.prog 31 #[v, .int .i64 a] w fun e w' => ∃ v', e = .returned v' ∧ EdV w' (fun k => P k ∨ w.heap.size ≤ k) s v' ∧ Below w.heap.size w w' := by
  have hvo := hv.old
  obtain ⟨P0, hP0⟩ : ∃ Q : Nat → Prop, Q = fun k => P k ∧ k < w.heap.size := ⟨_, rfl⟩
  rw [← hP0] at hvo
  have hp1 : ∀ k, P0 k → P k ∧ k < w.heap.size := by intro k hk; rw [hP0] at hk; exact hk
  clear hP0
  obtain ⟨Ak, Au, Ar, ck, cu, cr, rfl, v1, v2, v3⟩ := hvo
  have hu27 := Try.underlying27
  have hu23 := Try.underlying23
  obtain ⟨w1, hw1⟩ : ∃ z, z = (w.alloc (.cells #[.string s.text, .int .i64 s.pos, .int .i64 s.mark, .slice Ak s.kills.length ck, .slice Au s.undo.length cu, .slice Ar s.redo.length cr, .string s.keys, .int .i64 s.last, .int .i64 s.line, .string s.saved] 27)).alloc (.cells #[.string ⟨#[]⟩, .int .i64 0, .int .i64 0, .slice none 0 0, .slice none 0 0, .slice none 0 0, .string ⟨#[]⟩, .int .i64 0, .int .i64 0, .string ⟨#[]⟩] 27) := ⟨_, rfl⟩
  obtain ⟨b1, b2, b3, b4⟩ := box2 w #[.string s.text, .int .i64 s.pos, .int .i64 s.mark, .slice Ak s.kills.length ck, .slice Au s.undo.length cu, .slice Ar s.redo.length cr, .string s.keys, .int .i64 s.last, .int .i64 s.line, .string s.saved] #[.string ⟨#[]⟩, .int .i64 0, .int .i64 0, .slice none 0 0, .slice none 0 0, .slice none 0 0, .string ⟨#[]⟩, .int .i64 0, .int .i64 0, .string ⟨#[]⟩] 27 27
  rw [← hw1] at b1 b2 b3 b4
  have HE := Aside0.mk b1
  have HR := Aside0.mk b2
  have HB1 := Aside0.mk b3
  have HSZ := Aside0.mk b4
  have HP1 := Aside0.mk hp1
  have HW1 := Aside0.mk hw1
  have HV := Aside0.mk (show EdV w1 P0 s (edV s (.slice Ak s.kills.length ck) (.slice Au s.undo.length cu) (.slice Ar s.redo.length cr)) from ⟨Ak, Au, Ar, ck, cu, cr, rfl, Kd.V_below v1 b3, Kd.V_below v2 b3, Kd.V_below v3 b3⟩)
  have K1 := Aside0.mk (Kd.V_below v1 b3)
  have K2 := Aside0.mk (Kd.V_below v2 b3)
  have K3 := Aside0.mk (Kd.V_below v3 b3)
  unfold edV at HV hv ⊢
  obtain ⟨d0, d1, d2, d3, d4, d5, d6, d7, d8, d9⟩ := Box.cells (s := s) b1
  clear hv v1 v2 v3 hw1 b1 b2 b3 b4 hp1
  clear d0 d1 d2 d3 d4 d5 d6 d7 d8 d9
  go_enter Try.func31, Try.ntmps31
  go_upto_region 1 with (fail)
  rw [← HW1.out]
  have hqe := blk_frozen HE.out
  obtain ⟨d0, d1, d2, d3, d4, d5, d6, d7, d8, d9⟩ := Box.cells (s := s) HE.out
  have hqr := blk_frozen HR.out
  obtain ⟨r0, r1, r2, r3, r4, r5, r6, r7, r8, r9⟩ := ten_cells HR.out
  go_wp2_with (fail)
  obtain ⟨y1, y2, y3⟩ := put_edV (w := w) (s := s) (rb := w.heap.size + 1) K1.out K2.out K3.out (fun k hk => by have := (HP1.out k hk).2; omega) HR.out HB1.out (by omega)
  refine bodyPost_ret (results_cell_row rfl _ _ (w.heap.size + 1) 27 _ (0, 0) _ rfl y1 hu27 rfl (by first | rfl | decide)) rfl ?_
  exact ⟨_, rfl, y2.mono (fun k hk => .inl (HP1.out k hk).1), y3⟩

theorem rmove_calls (w : World) (P : Nat → Prop) (s : St) (a : Int) (v : Value) (hv : EdV w P s v) (ok : OkS s) :
    Calls Try.prog 31 #[v, .int .i64 a] w fun e w' => ∃ v', e = .returned v' ∧ EdV w' (fun k => P k ∨ w.heap.size ≤ k) (moveS s a) v' ∧ Below w.heap.size w w' := by
  have h0 := ok.low
  have h1 := ok.high
  have hs := ok.text
  unfold moveS
  by_cases a3 : a = 3
  · subst a3
    rw [if_pos rfl]
    by_cases hx : 0 < s.pos - 1
    · rw [if_pos hx]; exact rmove_3a w P s v hv h0 h1 hs hx
    · rw [if_neg hx]; exact rmove_3b w P s v hv h0 h1 hs hx
  by_cases a4 : a = 4
  · subst a4
    rw [if_neg (show ¬ ((4 : Int) = 3) by decide)]
    rw [if_pos rfl]
    by_cases hx : s.pos + 1 < (s.text.size : Int)
    · rw [if_pos hx]; exact rmove_4a w P s v hv h0 h1 hs hx
    · rw [if_neg hx]; exact rmove_4b w P s v hv h0 h1 hs hx
  by_cases a5 : a = 5
  · subst a5
    rw [if_neg (show ¬ ((5 : Int) = 3) by decide)]
    rw [if_neg (show ¬ ((5 : Int) = 4) by decide)]
    rw [if_pos rfl]
    exact rmove_5 w P s v hv h0 h1 hs
  by_cases a6 : a = 6
  · subst a6
    rw [if_neg (show ¬ ((6 : Int) = 3) by decide)]
    rw [if_neg (show ¬ ((6 : Int) = 4) by decide)]
    rw [if_neg (show ¬ ((6 : Int) = 5) by decide)]
    rw [if_pos rfl]
    exact rmove_6 w P s v hv h0 h1 hs
  by_cases a7 : a = 7
  · subst a7
    rw [if_neg (show ¬ ((7 : Int) = 3) by decide)]
    rw [if_neg (show ¬ ((7 : Int) = 4) by decide)]
    rw [if_neg (show ¬ ((7 : Int) = 5) by decide)]
    rw [if_neg (show ¬ ((7 : Int) = 6) by decide)]
    rw [if_pos rfl]
    exact rmove_7 w P s v hv h0 h1 hs
  by_cases a8 : a = 8
  · subst a8
    rw [if_neg (show ¬ ((8 : Int) = 3) by decide)]
    rw [if_neg (show ¬ ((8 : Int) = 4) by decide)]
    rw [if_neg (show ¬ ((8 : Int) = 5) by decide)]
    rw [if_neg (show ¬ ((8 : Int) = 6) by decide)]
    rw [if_neg (show ¬ ((8 : Int) = 7) by decide)]
    rw [if_pos rfl]
    exact rmove_8 w P s v hv h0 h1 hs
  by_cases a25 : a = 25
  · subst a25
    rw [if_neg (show ¬ ((25 : Int) = 3) by decide)]
    rw [if_neg (show ¬ ((25 : Int) = 4) by decide)]
    rw [if_neg (show ¬ ((25 : Int) = 5) by decide)]
    rw [if_neg (show ¬ ((25 : Int) = 6) by decide)]
    rw [if_neg (show ¬ ((25 : Int) = 7) by decide)]
    rw [if_neg (show ¬ ((25 : Int) = 8) by decide)]
    rw [if_pos rfl]
    exact rmove_25 w P s v hv h0 h1 hs
  by_cases a26 : a = 26
  · subst a26
    rw [if_neg (show ¬ ((26 : Int) = 3) by decide)]
    rw [if_neg (show ¬ ((26 : Int) = 4) by decide)]
    rw [if_neg (show ¬ ((26 : Int) = 5) by decide)]
    rw [if_neg (show ¬ ((26 : Int) = 6) by decide)]
    rw [if_neg (show ¬ ((26 : Int) = 7) by decide)]
    rw [if_neg (show ¬ ((26 : Int) = 8) by decide)]
    rw [if_neg (show ¬ ((26 : Int) = 25) by decide)]
    rw [if_pos rfl]
    exact rmove_26 w P s v hv h0 h1 hs
  rw [if_neg a3, if_neg a4, if_neg a5, if_neg a6, if_neg a7, if_neg a8, if_neg a25, if_neg a26]
  exact rmove_none w P s a v hv (beq_eq_false_iff_ne.mpr a3) (beq_eq_false_iff_ne.mpr a4) (beq_eq_false_iff_ne.mpr a5) (beq_eq_false_iff_ne.mpr a6) (beq_eq_false_iff_ne.mpr a7) (beq_eq_false_iff_ne.mpr a8) (beq_eq_false_iff_ne.mpr a25) (beq_eq_false_iff_ne.mpr a26)
end Go.Proofs.Ytlbbjdggebgabaa.P
end

section
/- Two neighbours exchanged: by numbers and by cuts; plain facts. -/
namespace Go.Proofs.Ytlbbjdggebgabaa.P
open Go.RowKit Go.Proofs.YtlbbjdggebgabaaW.PrintWords Go.Proofs.YtlbbjdggebgabaaW.PrintLast Go.Proofs.YtlbbjdggebgabaaW.PrintMore
set_option linter.unusedVariables false
set_option linter.unusedSimpArgs false

theorem list_two (L : List UInt8) (i : Nat) (h : i + 1 < L.length) : ∃ A a b B, L = A ++ a :: b :: B ∧ A.length = i := by
  refine ⟨L.take i, L[i], L[i + 1], L.drop (i + 2), ?_, by simp; omega⟩
  rw [← List.drop_eq_getElem_cons (by omega : i + 1 < L.length), ← List.drop_eq_getElem_cons (by omega : i < L.length), List.take_append_drop]
theorem swap_list (A B : List UInt8) (a b : UInt8) : (swapAt ((A ++ a :: b :: B).map fun c => (c.toNat : Int)) A.length (A.length + 1)).map (fun n => UInt8.ofNat n.toNat) = A ++ b :: a :: B := by
  unfold swapAt
  have e1 : ((A ++ a :: b :: B).map fun c => (c.toNat : Int)) = A.map (fun c => (c.toNat : Int)) ++ (a.toNat : Int) :: (b.toNat : Int) :: B.map (fun c => (c.toNat : Int)) := by simp
  rw [e1]
  have hl : (A.map fun c => (c.toNat : Int)).length = A.length := by simp
  have g1 : (A.map (fun c => (c.toNat : Int)) ++ (a.toNat : Int) :: (b.toNat : Int) :: B.map (fun c => (c.toNat : Int)))[A.length + 1]? = some (b.toNat : Int) := by
    rw [List.getElem?_append_right (by simp)]
    simp
  have g0 : (A.map (fun c => (c.toNat : Int)) ++ (a.toNat : Int) :: (b.toNat : Int) :: B.map (fun c => (c.toNat : Int)))[A.length]? = some (a.toNat : Int) := by
    rw [List.getElem?_append_right (by simp)]
    simp
  rw [g0, g1]
  have s1 : (A.map (fun c => (c.toNat : Int)) ++ (a.toNat : Int) :: (b.toNat : Int) :: B.map (fun c => (c.toNat : Int))).set A.length (b.toNat : Int) = A.map (fun c => (c.toNat : Int)) ++ (b.toNat : Int) :: (b.toNat : Int) :: B.map (fun c => (c.toNat : Int)) := by
    rw [List.set_append_right _ _ (by simp)]
    simp
  have s2 : (A.map (fun c => (c.toNat : Int)) ++ (b.toNat : Int) :: (b.toNat : Int) :: B.map (fun c => (c.toNat : Int))).set (A.length + 1) (a.toNat : Int) = A.map (fun c => (c.toNat : Int)) ++ (b.toNat : Int) :: (a.toNat : Int) :: B.map (fun c => (c.toNat : Int)) := by
    rw [List.set_append_right _ _ (by simp)]
    simp
  have hid : ∀ l : List UInt8, (l.map fun c => (c.toNat : Int)).map (fun n => UInt8.ofNat n.toNat) = l := by
    intro l
    rw [List.map_map]
    exact (List.map_congr_left (fun c _ => by simp)).trans (List.map_id _)
  rw [Option.getD_some, Option.getD_some, s1, s2, List.map_append, List.map_cons, List.map_cons, hid, hid]
  simp
theorem ext_list (t : ByteArray) (i j : Nat) : (t.extract i j).data.toList = (t.data.toList.take j).drop i := by
  rw [ByteArray.data_extract, Array.toList_extract]
  simp [List.extract, List.drop_take]
theorem swap_cut (t : ByteArray) (i : Nat) (h : i + 1 < t.size) : strOfNums (swapAt (nums t) i (i + 1)) = ((t.extract 0 i ++ t.extract (i + 1) (i + 2)) ++ t.extract i (i + 1)) ++ t.extract (i + 2) t.size := by
  have hz : t.data.toList.length = t.size := by simp
  obtain ⟨A, a, b, B, hL, hA⟩ := list_two t.data.toList i (by omega)
  apply ByteArray.ext
  apply Array.ext'
  rw [strOfNums_data]
  unfold nums
  rw [ByteArray.data_append, ByteArray.data_append, ByteArray.data_append, Array.toList_append, Array.toList_append, Array.toList_append, ext_list, ext_list, ext_list, ext_list, ← hz, hL]
  subst hA
  rw [swap_list]
  have d1 : ∀ m n, A.length ≤ n → List.drop n (List.take m A) = [] := fun m n hn => List.drop_eq_nil_of_le (by simp; omega)
  simp [List.take_append, List.drop_append, d1 _ (A.length + 1) (by omega), d1 _ (A.length + 2) (by omega)]
end Go.Proofs.Ytlbbjdggebgabaa.P
end
